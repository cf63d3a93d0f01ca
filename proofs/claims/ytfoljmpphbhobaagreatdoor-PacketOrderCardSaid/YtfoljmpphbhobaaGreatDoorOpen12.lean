/- A slice of Items, opened. -/
import Derived.Test.YtfoljmpphbhobaaGreatDoorLaw12b
import Derived.Test.YtfoljmpphbhobaaGreatDoorTab
import Derived.Test.YtfoljmpphbhobaaGreatDoorStay
import Derived.Test.YtfoljmpphbhobaaGreatDoorErrs
import Derived.Deep.Slices
import Derived.ChangeMaps5
namespace Go.Proofs.YtfoljmpphbhobaaGreatDoor
open Go.ChangeShapes Go.WideShapes Go.ChangeAt Go.RowKit Go.Spk Go.Deep
theorem peel1 {cs : List Value} {i : Nat} {v : Value} (h : (cs.drop i).take 1 = [v]) : cs.drop i = v :: cs.drop (i + 1) := by
  have e := List.take_append_drop 1 (cs.drop i)
  rw [h, List.drop_drop] at e
  exact e.symm
theorem cellsItem : Tryz.prog.cellsOf 31 = 34 := by kernel_rfl
theorem cellsStr : Tryz.prog.cellsOf 9 = 1 := by kernel_rfl
theorem cellsBool : Tryz.prog.cellsOf 4 = 1 := by kernel_rfl
def fieldsAt (P : Program) (t : TypeId) : Array Field := match P.underlying t with | some (.struct fs) => fs | _ => #[]
theorem fieldsI_is : Tryz.prog.underlying 31 = some (.struct (fieldsAt Tryz.prog 31)) := by kernel_rfl
theorem fieldsI_size : (fieldsAt Tryz.prog 31).size = 3 := by kernel_rfl
section
variable {H : Type} {enc : TypeId × Value → H} {w : World} {base : Nat} {sp : Nat → Bool} {held : Bool}
theorem item_open {fuel : Nat} {cs : List Value} {x : DataW H × List MemPlace} (hf : DataW.trod enc Tryz.prog w base sp held fuel 31 cs = some x) :
    ∃ it : Itm, it.key.length = 32 ∧ U8s it.key ∧ cs = [.bool it.lock] ++ it.key.map (Value.int .u8) ++ [.string it.s] := by
  obtain ⟨xs, n, _, hx, hl, hxl, hi⟩ := DataW.trod_struct fieldsI_is hf
  rw [fieldsI_size] at hxl
  rw [cellsItem] at hl
  have g : ∀ i, i < 3 → ∃ y, xs[i]? = some y := fun i h => ⟨xs[i]'(by rw [hxl]; exact h), List.getElem?_eq_getElem _⟩
  have key : ∀ i, i < 3 → ∀ (t o : Nat), ((fieldsAt Tryz.prog 31)[i]?).map (fun f => (f.type, f.offset)) = some (t, o) → ∃ y, DataW.trod enc Tryz.prog w base sp held n t ((cs.drop o).take (Tryz.prog.cellsOf t)) = some y := by
    intro i hi6 t o he
    obtain ⟨y, hy⟩ := g i hi6
    obtain ⟨f, hf', he⟩ := Option.map_eq_some_iff.1 he
    have h1 := hi i f hf'
    simp only [Prod.mk.injEq] at he
    rw [he.1, he.2, hy] at h1
    exact ⟨y, h1⟩
  obtain ⟨y0, h0⟩ := key 0 (by decide) 4 0 (by kernel_rfl)
  obtain ⟨y1, h1⟩ := key 1 (by decide) 25 1 (by kernel_rfl)
  obtain ⟨y2, h2⟩ := key 2 (by decide) 9 33 (by kernel_rfl)
  rw [cellsBool] at h0
  rw [cells32] at h1
  rw [cellsStr] at h2
  obtain ⟨ks, ksl, hk, _, _, wks⟩ := open_arr (enc := enc) (w := w) (base := base) (sp := sp) (held := held) (v := .agg ((cs.drop 1).take 32).toArray) (d := y1.1) (ps := y1.2) Tryz.underlying25 Tryz.underlying5 cellsu1 cells32 (by decide) ⟨n, h1⟩
  obtain ⟨b, e0, _⟩ := DataW.trod_bool Tryz.underlying4 h0
  obtain ⟨s, e2, _, _⟩ := DataW.trod_string Tryz.underlying9 h2
  have e1 : (cs.drop 1).take 32 = ks.map (Value.int .u8) := congrArg Array.toList (Value.agg.inj hk)
  refine ⟨⟨b, ks, s⟩, ksl, U8s_of_mem (u8_wf wks), ?_⟩
  have d34 : cs.drop 34 = [] := List.drop_of_length_le (by omega)
  have d33 : cs.drop 33 = [.string s] := by rw [peel1 e2, d34]
  have d1 : cs.drop 1 = ks.map (Value.int .u8) ++ [.string s] := (List.take_append_drop 32 (cs.drop 1)).symm.trans (by rw [e1, List.drop_drop, d33])
  have d0 : cs = .bool b :: cs.drop 1 := peel1 (i := 0) e0
  rw [d0, d1]
  simp
theorem spot_none {p : Addr} {v : Value} (h : w.cell? p = some v) : p.spot = none := by
  unfold World.cell? at h
  split at h
  · split at h
    · cases h
    · rename_i hs
      cases hp : p.spot with
      | none => rfl
      | some s => rw [hp] at hs; simp at hs
  · cases h
theorem open_items {v : Value} {d : DataW H} {ps : List MemPlace} (hv : ∃ A l c, v = .slice A l c) (h : DataW.Trod enc Tryz.prog w 0 (fun _ => true) true 22 v d ps) :
    ∃ (A : Option Addr) (its : List Itm) (cap : Nat), v = .slice A its.length cap ∧ its.length ≤ maxLen ∧ ItemsAt w A its := by
  obtain ⟨A, l, c, rfl⟩ := hv
  obtain ⟨fuel, hf⟩ := h
  rcases open_slice Tryz.underlying22 hf with ⟨hcs, _⟩ | ⟨a, len, cap, m, n, D, Pl, hcs, _, hl, hm, hmm, _, hx⟩
  · simp [Value.cells] at hcs
    obtain ⟨rfl, rfl, rfl⟩ := hcs
    exact ⟨none, [], 0, rfl, by simp, fun j it hj => by simp at hj⟩
  · simp [Value.cells] at hcs
    obtain ⟨rfl, rfl, rfl⟩ := hcs
    simp only [if_true] at hmm
    subst hmm
    rw [cellsItem] at hx
    have hex : ∀ i, i < l → ∃ it : Itm, it.key.length = 32 ∧ U8s it.key ∧ ∀ j u, ([.bool it.lock] ++ it.key.map (Value.int .u8) ++ [.string it.s])[j]? = some u → w.cell? ((a.add (i * 34)).add j) = some u := by
      intro i hi
      obtain ⟨cs', hc, ht⟩ := hx i (by omega)
      obtain ⟨it, h1, h2, rfl⟩ := item_open ht
      obtain ⟨_, hlen, hat⟩ := World.cells?_some hc
      refine ⟨it, h1, h2, fun j u hu => ?_⟩
      have hj : j < 34 := by
        have := (List.getElem?_eq_some_iff.1 hu).1
        rw [← hlen]; exact this
      rw [hat j hj]; exact hu
    let F : Nat → Itm := fun i => if h : i < l then (hex i h).choose else ⟨false, [], ⟨#[]⟩⟩
    refine ⟨some a, (List.range l).map F, _, by rw [List.length_map, List.length_range], by rw [List.length_map, List.length_range]; omega, fun j it hj => ?_⟩
    have hjl : j < l := by
      have := (List.getElem?_eq_some_iff.1 hj).1
      simpa using this
    have hit : it = (hex j hjl).choose := by
      simp [hjl] at hj
      rw [← hj]
      simp [F, hjl]
    obtain ⟨h1, h2, h3⟩ := (hex j hjl).choose_spec
    rw [← hit] at h1 h2 h3
    have c0 := h3 0 (.bool it.lock) rfl
    have hs : a.spot = none := by
      have h0 := (hex 0 (by omega)).choose_spec.2.2 0 _ rfl
      exact spot_none h0
    obtain ⟨B, o, s⟩ := a
    simp only at hs
    subst hs
    simp only [Addr.add_mid] at h3 c0
    refine ⟨h1, h2, B, o, rfl, block_lt_of_cell c0, c0, ?_, ?_⟩
    · intro q u hu
      have hq : q < it.key.length := by
        have := (List.getElem?_eq_some_iff.1 hu).1
        simpa using this
      have := h3 (1 + q) u (by
        rw [List.append_assoc, List.getElem?_append_right (by simp), List.getElem?_append_left (by simp; omega)]
        simpa using hu)
      rwa [← Nat.add_assoc] at this
    · have := h3 33 (.string it.s) (by
        rw [List.getElem?_append_right (by simp [h1])]
        simp [h1])
      exact this
end
theorem errs4_of {W : World} (h : laidMet Tryz.prog (((errL.drop 1).take 4).map errD) W) : ∃ E : Nat → Addr, Er4 W E := by
  obtain ⟨ps, hv, hnd, hrows⟩ := h
  obtain ⟨L, hL, hLn, hLp, hLc⟩ := errs_vars W ((errL.drop 1).take 4) (fun x hx => errL_named x (List.mem_of_mem_drop (List.mem_of_mem_take hx))) ps hv hnd hrows
  have hlen : L.length = 4 := hL
  have hget : ∀ i, i < 4 → L[i]? = some (L.getD i ⟨0, 0, none⟩) := fun i hi => by simp [List.getD, show i < L.length by omega]
  have hx : ∀ i, i < 4 → ∃ x, ((errL.drop 1).take 4)[i]? = some x ∧ x.2.1 = errG (i + 1) := by
    intro i hi
    have : i = 0 ∨ i = 1 ∨ i = 2 ∨ i = 3 := by omega
    rcases this with rfl | rfl | rfl | rfl <;> exact ⟨_, rfl, rfl⟩
  refine ⟨fun i => L.getD (i - 1) ⟨0, 0, none⟩, ⟨fun i h1 h4 => ?_⟩⟩
  obtain ⟨x, e1, e2⟩ := hx (i - 1) (by omega)
  rw [show i - 1 + 1 = i by omega] at e2
  rw [← e2]
  exact hLc (i - 1) x _ e1 (hget (i - 1) (by omega))
end Go.Proofs.YtfoljmpphbhobaaGreatDoor
