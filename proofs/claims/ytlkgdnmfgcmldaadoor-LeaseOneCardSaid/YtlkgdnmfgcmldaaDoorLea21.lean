/- Two leases against each other; the law's fixed fact. -/
import Derived.Test.YtlkgdnmfgcmldaaDoorLea20
import Derived.Laws.StructEq
namespace Go.Proofs.YtlkgdnmfgcmldaaDoor
open Go.RowKit Go.Spk
set_option linter.unusedVariables false
def eqL (x y : Lse) : Bool := decide (x.t = y.t) && (decide (x.a = y.a) && (decide (x.o = y.o) && (decide (x.e = y.e) && decide (x.l = y.l))))
theorem eqL_iff (x y : Lse) : eqL x y = true ↔ x = y := by
  unfold eqL
  cases x; cases y
  simp
theorem eqL_self (x : Lse) : eqL x x = true := (eqL_iff x x).2 rfl
theorem beq_str (s s' : ByteArray) : (s.toList == s'.toList) = decide (s = s') := by
  by_cases h : s = s'
  · subst h; simp
  · rw [str_ne h]; simp [h]
theorem tl_eq (s s' : ByteArray) : (s.toList = s'.toList) = (s = s') := by
  rw [Lib.toList_data, Lib.toList_data]
  exact propext ⟨str_data, fun h => by rw [h]⟩
theorem eql_lease (x y : Lse) (w : World) : (binOp .eql 29 (.agg (lseC x).toArray) (.agg (lseC y).toArray)).run Tryd.prog w = .ok (.bool (eqL x y)) w := by
  have u3 := Tryd.underlying3
  have a3 := Tryd.isAgg3
  have z3 := Tryd.sizeOf3
  have u9 := Tryd.underlying9
  have a9 := Tryd.isAgg9
  have z9 := Tryd.sizeOf9
  have hS : Tryd.prog.underlying 29 = some (.struct (Tryd.prog.fieldsOf 29)) := by kernel_rfl
  have hp : Tryd.prog.stoodInHeld 29 = false := by kernel_rfl
  simp only [lseC]
  rw [run_eql_struct, show (10000 : Nat) = 9999 + 1 from rfl, run_equalIn_agg w 9999 29 _ _ hS hp]
  simp only [Program.fieldsOf, Tryd.underlying29]
  go_simp
  unfold eqL
  simp only [tl_eq]
  by_cases h1 : x.t = y.t <;> by_cases h2 : x.a = y.a <;> by_cases h3 : x.o = y.o <;> by_cases h4 : x.e = y.e <;> by_cases h5 : x.l = y.l <;> simp [h1, h2, h3, h4, h5]
theorem guard_lease : Tryd.prog.eqGuardType Tryd.prog.depth 29 = false := by kernel_rfl
theorem eql_rlease (x y : Lse) (w : World) : (binOp .eql 71 (.agg (lseC x).toArray) (.agg (lseC y).toArray)).run Tryd.prog w = .ok (.bool (eqL x y)) w := by
  have u3 := Tryd.underlying3
  have a3 := Tryd.isAgg3
  have z3 := Tryd.sizeOf3
  have u9 := Tryd.underlying9
  have a9 := Tryd.isAgg9
  have z9 := Tryd.sizeOf9
  have hS : Tryd.prog.underlying 71 = some (.struct (Tryd.prog.fieldsOf 71)) := by kernel_rfl
  have hp : Tryd.prog.stoodInHeld 71 = false := by kernel_rfl
  simp only [lseC]
  rw [run_eql_struct, show (10000 : Nat) = 9999 + 1 from rfl, run_equalIn_agg w 9999 71 _ _ hS hp]
  simp only [Program.fieldsOf, Tryd.underlying71]
  go_simp
  unfold eqL
  simp only [tl_eq]
  by_cases h1 : x.t = y.t <;> by_cases h2 : x.a = y.a <;> by_cases h3 : x.o = y.o <;> by_cases h4 : x.e = y.e <;> by_cases h5 : x.l = y.l <;> simp [h1, h2, h3, h4, h5]
theorem guard_rlease : Tryd.prog.eqGuardType Tryd.prog.depth 71 = false := by kernel_rfl
def sT : ByteArray := ⟨#[116]⟩
def sA : ByteArray := ⟨#[97]⟩
def sB : ByteArray := ⟨#[98]⟩
theorem awk1 : takeM 2 4 0 [] sT sA 1 0 = ⟨[⟨sT, sA, 1, 1, 0⟩], 1, ⟨sT, sA, 1, 1, 0⟩, -1, 0⟩ := by kernel_rfl
theorem awk2 : takeM 2 4 1 [⟨sT, sA, 1, 1, 0⟩] sT sA 2 3 = ⟨[⟨sT, sA, 2, 2, 3⟩], 2, ⟨sT, sA, 2, 2, 3⟩, 1, 0⟩ := by kernel_rfl
theorem awk3 : foundX [⟨sT, sA, 2, 2, 3⟩] sT sB = lse0 ∧ ∀ E, foundE E [⟨sT, sA, 2, 2, 3⟩] sT sB = errI E := ⟨by kernel_rfl, fun E => by
  unfold foundE
  rw [show (lookL [⟨sT, sA, 2, 2, 3⟩] sT sB).isSome = false by kernel_rfl]
  rfl⟩
set_option maxRecDepth 100000 in
set_option maxHeartbeats 2000000 in
theorem awake_calls (E : Nat → Addr) (w : World) (hE : Errs w E) : Calls Tryd.prog 7 #[] w fun e w' => e = .returned (.bool true) ∧ Below w.heap.size w w' := by
  have HE := Lib.hid hE
  clear hE
  have hl1 : sT.size ≤ maxLen := by show 1 ≤ _; unfold maxLen; omega
  have hl2 : sA.size ≤ maxLen := by show 1 ≤ _; unfold maxLen; omega
  have hl3 : sB.size ≤ maxLen := by show 1 ≤ _; unfold maxLen; omega
  have HS := Lib.hid (And.intro hl1 (And.intro hl2 hl3))
  clear hl1 hl2 hl3
  go_enter Tryd.func7, Tryd.ntmps7
  go_wp2_with fail
  refine (h_new w 2 4 5 w (Below.refl _ _)).mono ?_
  rintro e W1 ⟨g, b, rfl, h1, _, _, _⟩
  have H1 := Lib.hid h1
  clear h1
  go_wp2_with fail
  refine (h_take W1 H1.out E HE.out (by decide) (by simp) sT sA 1 0 HS.out.1 HS.out.2.1).mono ?_
  rintro e W2 ⟨rfl, h2, _⟩
  rw [show (max 0 (min (2 : Int) 64)) = 2 by decide, show (max 0 (min (4 : Int) 4096)) = 4 by decide, awk1] at h2
  rw [show (max 0 (min (2 : Int) 64)) = 2 by decide, show (max 0 (min (4 : Int) 4096)) = 4 by decide, awk1]
  have H2 := Lib.hid h2
  clear h2
  rw [show errV E (0 : Nat) = .nilIface from rfl]
  unfold lseV
  go_wp2_with fail
  refine (h_take _ (H2.out.quiet ((Below.refl _ _).alloc (Nat.le_refl _) _)) E HE.out (by decide) (by simp) sT sA 2 3 HS.out.1 HS.out.2.1).mono ?_
  rintro e W3 ⟨rfl, h3, _⟩
  rw [awk2] at h3
  rw [awk2]
  have H3 := Lib.hid h3
  clear h3
  rw [show errV E (0 : Nat) = .nilIface from rfl]
  unfold lseV
  go_wp2_with fail
  refine (h_find _ (H3.out.quiet ((Below.refl _ _).alloc (Nat.le_refl _) _)) E HE.out sT sB HS.out.1 HS.out.2.2).mono ?_
  rintro e W4 ⟨rfl, h4, hb4⟩
  rw [awk3.1, awk3.2]
  have hw5 : Whole W4 W3.heap.size 29 (lseC ⟨sT, sA, 2, 2, 3⟩).toArray := (Whole.new (w := W3) rfl rfl).below hb4 (by simp)
  have H4 := Lib.hid (And.intro h4 hw5)
  have hq := eql_lease ⟨sT, sA, 2, 2, 3⟩ ⟨sT, sA, 2, 2, 3⟩
  rw [eqL_self] at hq
  have hgd := guard_lease
  have c0 := (hw5.alloc (.cells (lseC lse0).toArray 29)).at_ 0; have c1 := (hw5.alloc (.cells (lseC lse0).toArray 29)).at_ 1; have c2 := (hw5.alloc (.cells (lseC lse0).toArray 29)).at_ 2; have c3 := (hw5.alloc (.cells (lseC lse0).toArray 29)).at_ 3; have c4 := (hw5.alloc (.cells (lseC lse0).toArray 29)).at_ 4
  simp only [lseC, lse0, sT, sA, List.getElem?_toArray, List.getElem?_cons_zero, List.getElem?_cons_succ] at c0 c1 c2 c3 c4 hq
  clear h4 hb4 hw5
  unfold lseV lse0 errI
  go_wp2_with fail
  clear c0 c1 c2 c3 c4 hq hgd
  generalize hW : World.alloc _ _ = W5
  have H5 := Lib.hid (show Hold w W5 g b 2 4 (max 1 (min 5 1073741824)) 2 [⟨sT, sA, 2, 2, 3⟩] by subst hW; exact H4.out.1.quiet ((Below.refl _ _).alloc (Nat.le_refl _) _))
  clear hW
  refine (code_bare E 7 (by decide) _ (HE.out.below H5.out.below)).mono ?_
  rintro e w' ⟨rfl, rfl⟩
  go_wp2_with fail
  refine (h_all _ H5.out (by simp)).mono ?_
  rintro e W6 ⟨v, rfl, h6, h7, _⟩
  have H7 := Lib.hid h7
  obtain ⟨A, c, rfl⟩ : ∃ A c, v = .slice A 1 c := by
    rcases h6.shape with ⟨_, h⟩ | ⟨g', cap, cur, h, _⟩
    · cases h
    · exact ⟨_, _, h⟩
  clear h6 h7
  go_wp2_with fail
  go_ret
  exact ⟨rfl, H7.out.below⟩
end Go.Proofs.YtlkgdnmfgcmldaaDoor
