/- A Turned, opened. -/
import Derived.Test.YtfoljmpphbhobaaDoorLaw4e
import Derived.Test.YtfoljmpphbhobaaDoorTab
import Derived.Test.YtfoljmpphbhobaaDoorStay
import Derived.Deep.Slices
import Derived.ChangeMaps5
namespace Go.Proofs.YtfoljmpphbhobaaDoor
open Go.ChangeShapes Go.WideShapes Go.ChangeAt Go.RowKit Go.Spk
theorem peel {cs : List Value} {i : Nat} {v : Value} (h : (cs.drop i).take 1 = [v]) : cs.drop i = v :: cs.drop (i + 1) := by
  have e := List.take_append_drop 1 (cs.drop i)
  rw [h, List.drop_drop] at e
  exact e.symm
theorem cells37 : Tryd.prog.cellsOf 53 = 37 := by kernel_rfl
theorem cellsst : Tryd.prog.cellsOf 9 = 1 := by kernel_rfl
theorem cellsin : Tryd.prog.cellsOf 3 = 1 := by kernel_rfl
def fieldsOf (P : Program) (t : TypeId) : Array Field := match P.underlying t with | some (.struct fs) => fs | _ => #[]
theorem fieldsT_is : Tryd.prog.underlying 53 = some (.struct (fieldsOf Tryd.prog 53)) := by kernel_rfl
theorem fieldsT_size : (fieldsOf Tryd.prog 53).size = 6 := by kernel_rfl
theorem open_turned {H : Type} {enc : TypeId × Value → H} {w : World} {base : Nat} {sp : Nat → Bool} {held : Bool} {v : Value} {d : DataW H} {ps : List MemPlace} (h : DataW.Trod enc Tryd.prog w base sp held 53 v d ps) :
    ∃ ks s x wh at_ by_, v = .agg (turnRow ks s x wh at_ by_) ∧ ks.length = 32 ∧ (∀ z ∈ ks, (Lit.int .u8 z).wf = true) ∧ (Lit.int .u8 by_).wf = true := by
  obtain ⟨fuel, hf⟩ := h
  obtain ⟨xs, n, _, hx, hl, hxl, hi⟩ := DataW.trod_struct fieldsT_is hf
  rw [fieldsT_size] at hxl
  rw [cells37] at hl
  generalize hcs : v.cells.toList = cs at hf hl hi
  have g : ∀ i, i < 6 → ∃ y, xs[i]? = some y := fun i h => ⟨xs[i]'(by rw [hxl]; exact h), List.getElem?_eq_getElem _⟩
  have key : ∀ i, i < 6 → ∀ (t o : Nat), ((fieldsOf Tryd.prog 53)[i]?).map (fun f => (f.type, f.offset)) = some (t, o) → ∃ y, DataW.trod enc Tryd.prog w base sp held n t ((cs.drop o).take (Tryd.prog.cellsOf t)) = some y := by
    intro i hi6 t o he
    obtain ⟨y, hy⟩ := g i hi6
    obtain ⟨f, hf', he⟩ := Option.map_eq_some_iff.1 he
    have h1 := hi i f hf'
    simp only [Prod.mk.injEq] at he
    rw [he.1, he.2, hy] at h1
    exact ⟨y, h1⟩
  obtain ⟨y0, h0⟩ := key 0 (by decide) 22 0 (by kernel_rfl)
  obtain ⟨y1, h1⟩ := key 1 (by decide) 9 32 (by kernel_rfl)
  obtain ⟨y2, h2⟩ := key 2 (by decide) 9 33 (by kernel_rfl)
  obtain ⟨y3, h3⟩ := key 3 (by decide) 3 34 (by kernel_rfl)
  obtain ⟨y4, h4⟩ := key 4 (by decide) 3 35 (by kernel_rfl)
  obtain ⟨y5, h5⟩ := key 5 (by decide) 5 36 (by kernel_rfl)
  rw [cells32] at h0
  rw [cellsst] at h1 h2
  rw [cellsin] at h3 h4
  rw [cellsu1] at h5
  obtain ⟨ks, ksl, hk, _, _, wks⟩ := open_arr (enc := enc) (w := w) (base := base) (sp := sp) (held := held) (v := .agg ((cs.drop 0).take 32).toArray) (d := y0.1) (ps := y0.2) Tryd.underlying22 Tryd.underlying5 cellsu1 cells32 (by decide) ⟨n, h0⟩
  obtain ⟨s, e1, _, _⟩ := DataW.trod_string Tryd.underlying9 h1
  obtain ⟨x, e2, _, _⟩ := DataW.trod_string Tryd.underlying9 h2
  obtain ⟨wh, e3, _, _⟩ := DataW.trod_int Tryd.underlying3 h3
  obtain ⟨at_, e4, _, _⟩ := DataW.trod_int Tryd.underlying3 h4
  obtain ⟨by_, e5, _, w5⟩ := DataW.trod_int Tryd.underlying5 h5
  have e0 : cs.take 32 = ks.map (Value.int .u8) := congrArg Array.toList (Value.agg.inj hk)
  have e : cs = ks.map (Value.int .u8) ++ [.string s, .string x, .int .i64 wh, .int .i64 at_, .int .u8 by_] := by
    have ee := (List.take_append_drop 32 cs).symm
    rw [e0, peel e1, peel e2, peel e3, peel e4, peel e5, List.drop_of_length_le (by omega)] at ee
    exact ee
  refine ⟨ks, s, x, wh, at_, by_, ?_, ksl, wks, w5⟩
  have hv : v.cells = turnRow ks s x wh at_ by_ := by
    apply Array.toList_inj.1
    rw [hcs, e]
    simp [turnRow, rowI]
  cases v with
  | agg a => simp only [Value.cells] at hv; rw [hv]
  | _ =>
    exfalso
    simp only [Value.cells] at hcs
    subst hcs
    simp at hl
end Go.Proofs.YtfoljmpphbhobaaDoor
