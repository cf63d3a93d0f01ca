/- A slice of acts, and a configuration, opened. -/
import Derived.Test.YtlkgdnmfgcmldaaDoorLea23
import Derived.Test.YtlkgdnmfgcmldaaDoorErrsL
import Derived.Test.YtlkgdnmfgcmldaaDoorStay
import Derived.Deep.Slices
import Derived.ChangeMaps5
namespace Go.Proofs.YtlkgdnmfgcmldaaDoor
open Go.ChangeShapes Go.WideShapes Go.ChangeAt Go.RowKit Go.Spk Go.Deep
theorem peel1 {cs : List Value} {i : Nat} {v : Value} (h : (cs.drop i).take 1 = [v]) : cs.drop i = v :: cs.drop (i + 1) := by
  have e := List.take_append_drop 1 (cs.drop i)
  rw [h, List.drop_drop] at e
  exact e.symm
theorem cellsAct : Tryd.prog.cellsOf 49 = 5 := by kernel_rfl
theorem cellsStr : Tryd.prog.cellsOf 9 = 1 := by kernel_rfl
def fieldsAt (P : Program) (t : TypeId) : Array Field := match P.underlying t with | some (.struct fs) => fs | _ => #[]
theorem fieldsA_is : Tryd.prog.underlying 49 = some (.struct (fieldsAt Tryd.prog 49)) := by kernel_rfl
theorem fieldsA_size : (fieldsAt Tryd.prog 49).size = 5 := by kernel_rfl
theorem cellsCfg : Tryd.prog.cellsOf 27 = 3 := by kernel_rfl
theorem fieldsC_is : Tryd.prog.underlying 27 = some (.struct (fieldsAt Tryd.prog 27)) := by kernel_rfl
theorem fieldsC_size : (fieldsAt Tryd.prog 27).size = 3 := by kernel_rfl
section
variable {H : Type} {enc : TypeId × Value → H} {w : World} {base : Nat} {sp : Nat → Bool} {held : Bool}
theorem act_open {fuel : Nat} {cs : List Value} {x : DataW H × List MemPlace} (hf : DataW.trod enc Tryd.prog w base sp held fuel 49 cs = some x) :
    ∃ it : Act, it.t.size ≤ maxLen ∧ it.a.size ≤ maxLen ∧ cs = actC it := by
  obtain ⟨xs, n, _, hx, hl, hxl, hi⟩ := DataW.trod_struct fieldsA_is hf
  rw [fieldsA_size] at hxl
  rw [cellsAct] at hl
  have g : ∀ i, i < 5 → ∃ y, xs[i]? = some y := fun i h => ⟨xs[i]'(by rw [hxl]; exact h), List.getElem?_eq_getElem _⟩
  have key : ∀ i, i < 5 → ∀ (t o : Nat), ((fieldsAt Tryd.prog 49)[i]?).map (fun f => (f.type, f.offset)) = some (t, o) → ∃ y, DataW.trod enc Tryd.prog w base sp held n t ((cs.drop o).take (Tryd.prog.cellsOf t)) = some y := by
    intro i hi6 t o he
    obtain ⟨y, hy⟩ := g i hi6
    obtain ⟨f, hf', he⟩ := Option.map_eq_some_iff.1 he
    have h1 := hi i f hf'
    simp only [Prod.mk.injEq] at he
    rw [he.1, he.2, hy] at h1
    exact ⟨y, h1⟩
  obtain ⟨y0, h0⟩ := key 0 (by decide) 3 0 (by kernel_rfl)
  obtain ⟨y1, h1⟩ := key 1 (by decide) 9 1 (by kernel_rfl)
  obtain ⟨y2, h2⟩ := key 2 (by decide) 9 2 (by kernel_rfl)
  obtain ⟨y3, h3⟩ := key 3 (by decide) 3 3 (by kernel_rfl)
  obtain ⟨y4, h4⟩ := key 4 (by decide) 3 4 (by kernel_rfl)
  rw [cellsi] at h0 h3 h4
  rw [cellsStr] at h1 h2
  obtain ⟨k, e0, _⟩ := DataW.trod_int Tryd.underlying3 h0
  obtain ⟨t, e1, _, w1⟩ := DataW.trod_string Tryd.underlying9 h1
  obtain ⟨a, e2, _, w2⟩ := DataW.trod_string Tryd.underlying9 h2
  obtain ⟨o, e3, _⟩ := DataW.trod_int Tryd.underlying3 h3
  obtain ⟨m, e4, _⟩ := DataW.trod_int Tryd.underlying3 h4
  refine ⟨⟨k, t, a, o, m⟩, w1, w2, ?_⟩
  have d5 : cs.drop 5 = [] := List.drop_of_length_le (by omega)
  have d4 : cs.drop 4 = [.int .i64 m] := by rw [peel1 e4, d5]
  have d3 : cs.drop 3 = [.int .i64 o, .int .i64 m] := by rw [peel1 e3, d4]
  have d2 : cs.drop 2 = [.string a, .int .i64 o, .int .i64 m] := by rw [peel1 e2, d3]
  have d1 : cs.drop 1 = [.string t, .string a, .int .i64 o, .int .i64 m] := by rw [peel1 e1, d2]
  have d0 : cs = .int .i64 k :: cs.drop 1 := peel1 (i := 0) e0
  rw [d0, d1]
  rfl
theorem spot_none {p : Addr} {v : Value} (h : w.cell? p = some v) : p.spot = none := by
  unfold World.cell? at h
  split at h
  · split at h
    · cases h
    · rename_i hs
      cases hp : p.spot with
      | none => rfl
      | some s => rw [hp] at hs; simp at hs
  · cases h
theorem open_acts {v : Value} {d : DataW H} {ps : List MemPlace} (hv : ∃ A l c, v = .slice A l c) (h : DataW.Trod enc Tryd.prog w 0 (fun _ => true) true 41 v d ps) :
    ∃ (A : Option Addr) (its : List Act) (cap : Nat), v = .slice A its.length cap ∧ its.length ≤ maxLen ∧ ActsAt w A its := by
  obtain ⟨A, l, c, rfl⟩ := hv
  obtain ⟨fuel, hf⟩ := h
  rcases open_slice Tryd.underlying41 hf with ⟨hcs, _⟩ | ⟨a, len, cap, m, n, D, Pl, hcs, _, hl, hm, hmm, _, hx⟩
  · simp [Value.cells] at hcs
    obtain ⟨rfl, rfl, rfl⟩ := hcs
    exact ⟨none, [], 0, rfl, by simp, fun j it hj => by simp at hj⟩
  · simp [Value.cells] at hcs
    obtain ⟨rfl, rfl, rfl⟩ := hcs
    simp only [if_true] at hmm
    subst hmm
    rw [cellsAct] at hx
    have hex : ∀ i, i < l → ∃ it : Act, it.t.size ≤ maxLen ∧ it.a.size ≤ maxLen ∧ ∀ j u, (actC it)[j]? = some u → w.cell? ((a.add (i * 5)).add j) = some u := by
      intro i hi
      obtain ⟨cs', hc, ht⟩ := hx i (by omega)
      obtain ⟨it, h1, h2, rfl⟩ := act_open ht
      obtain ⟨_, hlen, hat⟩ := World.cells?_some hc
      refine ⟨it, h1, h2, fun j u hu => ?_⟩
      have hj : j < 5 := by
        have := (List.getElem?_eq_some_iff.1 hu).1
        exact this
      rw [hat j hj]; exact hu
    let F : Nat → Act := fun i => if h : i < l then (hex i h).choose else ⟨0, ⟨#[]⟩, ⟨#[]⟩, 0, 0⟩
    refine ⟨some a, (List.range l).map F, _, by rw [List.length_map, List.length_range], by rw [List.length_map, List.length_range]; omega, fun j it hj => ?_⟩
    have hjl : j < l := by
      have := (List.getElem?_eq_some_iff.1 hj).1
      simpa using this
    have hit : it = (hex j hjl).choose := by
      simp [hjl] at hj
      rw [← hj]
      simp [F, hjl]
    obtain ⟨h1, h2, h3⟩ := (hex j hjl).choose_spec
    rw [← hit] at h1 h2 h3
    have hs : a.spot = none := by
      have h0 := (hex 0 (by omega)).choose_spec.2.2 0 _ rfl
      exact spot_none h0
    obtain ⟨B, o, s⟩ := a
    simp only at hs
    subst hs
    simp only [Addr.add_mid] at h3
    have c0 := h3 0 _ rfl
    exact ⟨h1, h2, B, o, rfl, block_lt_of_cell c0, h3⟩
theorem open_cfg {v : Value} {d : DataW H} {ps : List MemPlace} (h : DataW.Trod enc Tryd.prog w 0 (fun _ => true) true 27 v d ps) :
    ∃ n t l : Int, v = .agg #[.int .i64 n, .int .i64 t, .int .i64 l] := by
  obtain ⟨fuel, hf⟩ := h
  obtain ⟨xs, n, _, hx, hl, hxl, hi⟩ := DataW.trod_struct fieldsC_is hf
  rw [fieldsC_size] at hxl
  rw [cellsCfg] at hl
  have g : ∀ i, i < 3 → ∃ y, xs[i]? = some y := fun i h => ⟨xs[i]'(by rw [hxl]; exact h), List.getElem?_eq_getElem _⟩
  have key : ∀ i, i < 3 → ∀ (t o : Nat), ((fieldsAt Tryd.prog 27)[i]?).map (fun f => (f.type, f.offset)) = some (t, o) → ∃ y, DataW.trod (fun x => enc x) Tryd.prog w 0 (fun _ => true) true n t ((v.cells.toList.drop o).take (Tryd.prog.cellsOf t)) = some y := by
    intro i hi6 t o he
    obtain ⟨y, hy⟩ := g i hi6
    obtain ⟨f, hf', he⟩ := Option.map_eq_some_iff.1 he
    have h1 := hi i f hf'
    simp only [Prod.mk.injEq] at he
    rw [he.1, he.2, hy] at h1
    exact ⟨y, h1⟩
  obtain ⟨y0, h0⟩ := key 0 (by decide) 3 0 (by kernel_rfl)
  obtain ⟨y1, h1⟩ := key 1 (by decide) 3 1 (by kernel_rfl)
  obtain ⟨y2, h2⟩ := key 2 (by decide) 3 2 (by kernel_rfl)
  rw [cellsi] at h0 h1 h2
  obtain ⟨a, e0, _⟩ := DataW.trod_int Tryd.underlying3 h0
  obtain ⟨b, e1, _⟩ := DataW.trod_int Tryd.underlying3 h1
  obtain ⟨c, e2, _⟩ := DataW.trod_int Tryd.underlying3 h2
  have d3 : v.cells.toList.drop 3 = [] := List.drop_of_length_le (by omega)
  have d2 : v.cells.toList.drop 2 = [.int .i64 c] := by rw [peel1 e2, d3]
  have d1 : v.cells.toList.drop 1 = [.int .i64 b, .int .i64 c] := by rw [peel1 e1, d2]
  have d0 : v.cells.toList = .int .i64 a :: v.cells.toList.drop 1 := peel1 (i := 0) e0
  rw [d1] at d0
  refine ⟨a, b, c, ?_⟩
  cases v with
  | agg cs =>
    congr 1
    exact Array.ext' (by simpa [Value.cells] using d0)
  | _ => simp [Value.cells] at hl
end
end Go.Proofs.YtlkgdnmfgcmldaaDoor
