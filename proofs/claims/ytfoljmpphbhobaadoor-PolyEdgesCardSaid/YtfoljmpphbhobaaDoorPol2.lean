/- The walks of poly's add and less on its three words. -/
import Derived.Test.YtfoljmpphbhobaaDoorPol1
import Derived.StillTailTactics
import Derived.RegionTactic
import Derived.BigRegion
namespace Go.Proofs.YtfoljmpphbhobaaDoor
open Go.RowKit Go.Spk
set_option linter.unusedVariables false
/-- The five words of a sum: a in three, r in two. -/
def sumI (A r0 r1 : Nat) : List Int := [(w0 A : Int), (w1 A : Int), (w2 A : Int), (r0 : Int), (r1 : Int)]
def rawI (a0 a1 a2 r0 r1 : Nat) : List Int := [(a0 : Int), (a1 : Int), (a2 : Int), (r0 : Int), (r1 : Int)]
theorem rawI_of (A r0 r1 : Nat) : rawI (w0 A) (w1 A) (w2 A) r0 r1 = sumI A r0 r1 := rfl
section
variable {w W : World} {g : Nat} {t : TypeId} {a0 a1 a2 r0 r1 : Nat}
theorem raw_cells (U : Upd w W g t .u64 (rawI a0 a1 a2 r0 r1)) :
    W.cell? ⟨g, 0, none⟩ = some (.int .u64 a0) ∧ W.cell? ⟨g, 1, none⟩ = some (.int .u64 a1) ∧ W.cell? ⟨g, 2, none⟩ = some (.int .u64 a2) ∧ W.cell? ⟨g, 3, none⟩ = some (.int .u64 r0) ∧ W.cell? ⟨g, 4, none⟩ = some (.int .u64 r1) :=
  ⟨U.cell 0 (by simp [rawI]), U.cell 1 (by simp [rawI]), U.cell 2 (by simp [rawI]), U.cell 3 (by simp [rawI]), U.cell 4 (by simp [rawI])⟩
end
set_option maxRecDepth 100000 in
set_option maxHeartbeats 1000000 in
theorem sadd_calls (g : Nat) (t : TypeId) (A r0 r1 lo hi top : Nat) (hlo : Wd lo) (hhi : Wd hi) (htop : top ≤ 1) (w : World) (hS : Whole w g t (rowI .u64 (sumI A r0 r1))) :
    Calls Tryd.prog 41 #[.pointer (some ⟨g, 0, none⟩), .int .u64 lo, .int .u64 hi, .int .u64 top] w
      fun e w' => e = .returned (.tuple #[]) ∧ Upd w w' g t .u64 (sumI (A + of3 lo hi top) r0 r1) := by
  have e0 := add_w0 A lo hi top
  have e1 := add_w1 A lo hi top
  have e2 := add_w2 A lo hi top
  have d0 := w0_wd A; have d1 := w1_wd A; have d2 := w2_wd A
  rw [← rawI_of] at hS ⊢
  rw [← e0, ← e1, ← e2]
  generalize w0 A = a0 at *
  generalize w1 A = a1 at *
  generalize w2 A = a2 at *
  clear e0 e1 e2
  have hc1 := aC_le a0 lo 0 d0 hlo (by decide)
  have hc2 := aC_le a1 hi (aC a0 lo 0) d1 hhi hc1
  have h1 := fun W => run_add64 a0 lo 0 (by decide) W
  have h2 := fun W => run_add64 a1 hi (aC a0 lo 0) hc1 W
  rw [show ((0 : Nat) : Int) = 0 from rfl] at h1
  generalize aC a1 hi (aC a0 lo 0) = c2 at *
  generalize aC a0 lo 0 = c1 at *
  generalize aS a1 hi c1 = s1 at *
  generalize aS a0 lo 0 = s0 at *
  have U0 := Upd.start hS
  obtain ⟨k0, k1, k2, k3, k4⟩ := raw_cells U0
  have f0 := U0.frozen 0
  have hw1 : IntKind.u64.wrap ((top : Int) + (c2 : Int)) = (top : Int) + c2 := by rw [IntKind.wrap_u64]; omega
  obtain ⟨s2, hs2⟩ : ∃ s2, s2 = (a2 + (top + c2)) % 18446744073709551616 := ⟨_, rfl⟩
  have hw2 : IntKind.u64.wrap ((a2 : Int) + ((top : Int) + (c2 : Int))) = (s2 : Int) := by rw [IntKind.wrap_u64, hs2]; omega
  rw [← hs2]
  have HW1 := Lib.hid hw1; have HW2 := Lib.hid hw2
  clear hs2 hw1 hw2
  clear hc1 hc2 d0 d1 d2 htop hlo hhi
  go_enter Tryd.func41, Tryd.ntmps41
  go_wp2_with fail
  go_region
  go_wp2_with fail
  have U1 : Upd w _ g t .u64 (rawI s0 a1 a2 r0 r1) := (U0.set 0 s0).drew
  generalize (w.setCell ⟨g, 0, none⟩ (.int .u64 (s0 : Nat))).drew = W1 at U1 ⊢
  clear k0 k1 k2 k3 k4 f0 h1
  obtain ⟨k0, k1, k2, k3, k4⟩ := raw_cells U1
  have f1 := U1.frozen 1
  go_region
  go_wp2_with fail
  have U2 : Upd w _ g t .u64 (rawI s0 s1 a2 r0 r1) := (U1.set 1 s1).drew
  generalize (W1.setCell ⟨g, 1, none⟩ (.int .u64 (s1 : Nat))).drew = W2 at U2 ⊢
  clear k0 k1 k2 k3 k4 f1 h2
  obtain ⟨k0, k1, k2, k3, k4⟩ := raw_cells U2
  have f2 := U2.frozen 2
  have hw1 := HW1.out; have hw2 := HW2.out
  go_region
  go_wp2_with fail
  go_end0
  exact ⟨rfl, (U2.set 2 s2).drew⟩
set_option maxRecDepth 100000 in
set_option maxHeartbeats 1000000 in
theorem sless_calls (g : Nat) (t : TypeId) (A r0 r1 : Nat) (hA : A / 18446744073709551616 / 18446744073709551616 < 18446744073709551616) (w : World) (hS : Whole w g t (rowI .u64 (sumI A r0 r1))) :
    Calls Tryd.prog 44 #[.pointer (some ⟨g, 0, none⟩)] w
      fun e w' => e = .returned (.tuple #[]) ∧ Upd w w' g t .u64 (sumI (if PP ≤ A then A - PP else A) r0 r1) := by
  have U0 := Upd.start hS
  have hlt := less_lt A hA
  have h1 := fun W => run_sub64 (w0 A) 18446744073709551611 0 (by decide) W
  have h2 := fun W => run_sub64 (w1 A) 18446744073709551615 (sC (w0 A) 18446744073709551611 0) (sC_le _ _ _) W
  have h3 := fun W => run_sub64 (w2 A) 3 (sC (w1 A) 18446744073709551615 (sC (w0 A) 18446744073709551611 0)) (sC_le _ _ _) W
  rw [show ((0 : Nat) : Int) = 0 from rfl, show ((18446744073709551611 : Nat) : Int) = 18446744073709551611 from rfl] at h1
  rw [show ((18446744073709551615 : Nat) : Int) = 18446744073709551615 from rfl] at h2
  rw [show ((3 : Nat) : Int) = 3 from rfl] at h3
  have L0 := less_w0 A; have L1 := less_w1 A; have L2 := less_w2 A
  have HL := Lib.hid (And.intro L0 (And.intro L1 L2))
  clear L0 L1 L2
  obtain ⟨k0, k1, k2, k3, k4⟩ := raw_cells (rawI_of A r0 r1 ▸ U0)
  have f0 := U0.frozen 0; have f1 := U0.frozen 1; have f2 := U0.frozen 2
  by_cases hp : PP ≤ A
  · rw [if_pos hp] at hlt ⊢
    rw [hlt] at h3
    obtain ⟨e0, e1, e2⟩ := HL.out
    have e0 := e0 hp; have e1 := e1 hp; have e2 := e2 hp
    rw [e2] at h3
    rw [e1] at h2
    rw [e0] at h1
    have E := Lib.hid (And.intro e0 (And.intro e1 e2))
    clear e0 e1 e2 HL hlt
    generalize A - PP = A' at *
    go_enter Tryd.func44, Tryd.ntmps44
    go_wp2_with fail
    go_end0
    exact ⟨rfl, ((U0.set 0 (w0 A' : Nat)).set 1 (w1 A' : Nat)).set 2 (w2 A' : Nat)⟩
  · rw [if_neg hp] at hlt ⊢
    rw [hlt] at h3
    clear hlt HL
    go_enter Tryd.func44, Tryd.ntmps44
    go_wp2_with fail
    go_end0
    exact ⟨rfl, U0⟩
end Go.Proofs.YtfoljmpphbhobaaDoor
