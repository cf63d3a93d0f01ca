/- The two tables of chacha, as the rows' lists give them; what the frames share. -/
import Derived.Test.YtfoljmpphbhobaaGreatDoorA1
import Derived.Test.YtfoljmpphbhobaaGreatDoorA2
import Derived.Test.YtfoljmpphbhobaaGreatDoorRows
import Derived.WalkKit
import Derived.ProofKit
import Derived.OpenShut
import Derived.Deep.DeepHandedRow
import Derived.Lib.LaidTab
namespace Go.Proofs.YtfoljmpphbhobaaGreatDoor
open Go.ChangeShapes Go.WideShapes Go.ChangeAt Go.RowKit Go.Spk
theorem own : ownKnob Tryz.prog.godebug = none := by kernel_rfl
theorem gBegin : Tryz.prog.globalNamed "speakeasy/chacha.begin" = some 21 := by kernel_rfl
theorem gBeginT : (Tryz.prog.globals[21]?).map (·.type) = some 157 := by kernel_rfl
theorem gOrder : Tryz.prog.globalNamed "speakeasy/chacha.order" = some 22 := by kernel_rfl
theorem gOrderT : (Tryz.prog.globals[22]?).map (·.type) = some 160 := by kernel_rfl
theorem cellsB : Tryz.prog.cellsOf 157 = 4 := by kernel_rfl
theorem cellsO : Tryz.prog.cellsOf 160 = 32 := by kernel_rfl
theorem cells4i : Tryz.prog.cellsOf 159 = 4 := by kernel_rfl
theorem cellsi : Tryz.prog.cellsOf 3 = 1 := by kernel_rfl
theorem cellsu4 : Tryz.prog.cellsOf 65 = 1 := by kernel_rfl
theorem cellsu1 : Tryz.prog.cellsOf 5 = 1 := by kernel_rfl
theorem cells32 : Tryz.prog.cellsOf 25 = 32 := by kernel_rfl
theorem cells12 : Tryz.prog.cellsOf 70 = 12 := by kernel_rfl
def ordR : List (List Int) := [[0, 4, 8, 12], [1, 5, 9, 13], [2, 6, 10, 14], [3, 7, 11, 15], [0, 5, 10, 15], [1, 6, 11, 12], [2, 7, 8, 13], [3, 4, 9, 14]]
theorem begin_of {rest : List (String × DataW Unit)} {W : World} (h : laidMet Tryz.prog (("speakeasy/chacha.begin", Rows.laid_speakeasy_chacha_begin) :: rest) W) : W.rangeAt 21 0 (beginI.map (Value.int .u32)) := by
  have ht : Lib.TabIs Tryz.prog W "speakeasy/chacha.begin" .u32 beginI := Lib.tabIs_of_head (rest := rest) gBegin gBeginT Tryz.underlying157 Tryz.underlying65 cellsu4 cellsB h
  intro j v hv
  have := World.var?_cell gBegin ht j
  rw [Nat.zero_add, this]
  simpa [Function.comp_def] using hv
theorem order_of {n : String} {d : DataW Unit} {rest : List (String × DataW Unit)} {W : World} (h : laidMet Tryz.prog ((n, d) :: ("speakeasy/chacha.order", Rows.laid_speakeasy_chacha_order) :: rest) W) : W.rangeAt 22 0 orderC := by
  obtain ⟨ps, ⟨_, _, _, _, _, _, _, _, _, _, hrest, _⟩, _⟩ := h
  obtain ⟨g', t', cs, fuel, p, q, hg', ht', hvar, hd, _, _⟩ := hrest
  obtain rfl := Option.some.inj (gOrder.symm.trans hg')
  obtain rfl := Option.some.inj (gOrderT.symm.trans ht')
  have hd' : DataW.trod (fun _ => ()) Tryz.prog W 0 (fun _ => true) false fuel 160 cs.toList = some (.agg (ordR.map fun r => .agg (r.map fun z => .lit (.int .i64 z))), p) := hd
  obtain ⟨hl, hr⟩ := cells_of_tab2 Tryz.underlying160 Tryz.underlying159 Tryz.underlying3 cellsi cells4i cellsO rfl hd'
  intro j v hv
  rw [Nat.zero_add, World.var?_cell gOrder hvar j, ← hv]
  have hj : j < 32 := by
    have := (List.getElem?_eq_some_iff.1 hv).1
    simpa [orderC, ordN] using this
  have h1 := congrArg (·[j % 4]?) (hr (j / 4) (by omega))
  simp only [List.getElem?_take, List.getElem?_drop] at h1
  rw [if_pos (by omega), show j / 4 * 4 + j % 4 = j by omega] at h1
  rw [← Array.getElem?_toList, h1]
  have hd : ∀ i, i < 32 → (ordR.getD (i / 4) [])[i % 4]? = (ordN.map fun (n : Nat) => (n : Int))[i]? := by decide +kernel
  rw [List.getElem?_map, hd j hj, ← List.getElem?_map, List.map_map]
  rfl
/-- A world for a witness: the settled one, the two tables holding what their initialisers lay. -/
noncomputable def laidWorld (os : Os) : World :=
  let w := World.holding Tryz.prog os ⟨#[], #[], []⟩
  { w with heap := (w.heap.modify 21 (layCells #[.int .u32 1634760805, .int .u32 857760878, .int .u32 2036477234, .int .u32 1797285236])).modify 22 (layCells orderC.toArray) }
end Go.Proofs.YtfoljmpphbhobaaGreatDoor
