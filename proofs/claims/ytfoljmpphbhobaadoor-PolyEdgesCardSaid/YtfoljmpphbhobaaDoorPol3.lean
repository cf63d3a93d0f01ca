/- The walk of poly's mul. -/
import Derived.Test.YtfoljmpphbhobaaDoorPol2
import Derived.Test.YtfoljmpphbhobaaDoorPol0b
import Derived.Test.YtfoljmpphbhobaaDoorBase7
namespace Go.Proofs.YtfoljmpphbhobaaDoor
open Go.RowKit Go.Spk
set_option linter.unusedVariables false
theorem wide_cells {w : World} {p : Nat} {a b : Nat} (h : Whole w p 129 #[.int .u64 a, .int .u64 b]) : w.cell? ⟨p, 0, none⟩ = some (.int .u64 a) ∧ w.cell? ⟨p, 1, none⟩ = some (.int .u64 b) := ⟨h.at_ 0, h.at_ 1⟩
theorem wide_one (a b : Nat) : (#[Value.int .u64 a, Value.int .u64 b] : Array Value).all (·.oneCell') = true := by
  rw [Array.all_eq_true_iff_forall_mem]; intro v hv; simp at hv; rcases hv with rfl | rfl <;> rfl
/-- The sum of two products, as a wide number. -/
theorem plus_prod (a b c d : Nat) (ha : Wd a) (hb : Wd b) (hc : Wd c) (hd : Wd d) (h : (a * b + c * d) / 18446744073709551616 < 18446744073709551616) (w : World) :
    Calls Tryd.prog 76 #[wideV (loW a b) (hiW a b), wideV (loW c d) (hiW c d)] w fun e w' => e = .returned (wideV ((a * b + c * d) % 18446744073709551616) ((a * b + c * d) / 18446744073709551616)) ∧ Below w.heap.size w w' := by
  have := plus_calls (loW a b) (hiW a b) (loW c d) (hiW c d) (loW_wd _ _) (loW_wd _ _) w
  unfold loW hiW at this
  rw [plus_lo, plus_hi _ _ h] at this
  exact this
set_option maxRecDepth 100000 in
set_option maxHeartbeats 4000000 in
theorem smul_calls (g : Nat) (t : TypeId) (A r0 r1 : Nat) (hA : A / 18446744073709551616 / 18446744073709551616 < 8) (h0 : r0 < 1152921504606846976) (h1 : r1 < 1152921504606846976) (w : World) (hS : Whole w g t (rowI .u64 (sumI A r0 r1))) :
    Calls Tryd.prog 42 #[.pointer (some ⟨g, 0, none⟩)] w
      fun e w' => e = .returned (.tuple #[]) ∧ w.grownBy w' (some g) ∧ Whole w' g t (rowI .u64 (sumI (redN (A * (r0 + 18446744073709551616 * r1))) r0 r1)) := by
  have d0 := w0_wd A; have d1 := w1_wd A; have d2 := w2_wd A
  have eA := of3_self A (by omega)
  have e2 : w2 A < 8 := by unfold w2; omega
  rw [← rawI_of] at hS
  rw [← eA]
  generalize w0 A = a0 at *
  generalize w1 A = a1 at *
  generalize w2 A = a2 at *
  clear hA eA
  have k0 : Wd r0 := by unfold Wd; omega
  have k1 : Wd r1 := by unfold Wd; omega
  obtain ⟨b0, b1, b2, b3, b4⟩ := mul_bounds a0 a1 a2 r0 r1 d0 d1 e2 h0 h1
  rw [mul_expand]
  have P1 := Lib.hid (plus_prod a1 r0 a0 r1 d1 k0 d0 k1 b1)
  have P2 := Lib.hid (plus_prod a2 r0 a1 r1 d2 k0 d1 k1 b2)
  have T0 := Lib.hid (times_calls a0 r0 d0 k0)
  have T1 := Lib.hid (times_calls a1 r0 d1 k0)
  have T2 := Lib.hid (times_calls a0 r1 d0 k1)
  have T3 := Lib.hid (times_calls a2 r0 d2 k0)
  have T4 := Lib.hid (times_calls a1 r1 d1 k1)
  have T5 := Lib.hid (times_calls a2 r1 d2 k1)
  generalize hm0 : a0 * r0 = m0 at *
  generalize hm1 : a1 * r0 + a0 * r1 = m1 at *
  generalize hm2 : a2 * r0 + a1 * r1 = m2 at *
  generalize hm3 : a2 * r1 = m3 at *
  generalize hV : m0 + 18446744073709551616 * (m1 + 18446744073709551616 * (m2 + 18446744073709551616 * m3)) = V at *
  have hsum := words_sum m0 m1 m2 m3 V b3 hV.symm b4
  obtain ⟨cc1, cc2⟩ := cW_le m0 m1 m2 b0 b1
  have A1 := fun W => run_add64 (m1 % 18446744073709551616) (m0 / 18446744073709551616) 0 (by decide) W
  have A2 := fun W => run_add64 (m2 % 18446744073709551616) (m1 / 18446744073709551616) (cW1 m0 m1) cc1 W
  have A3 := fun W => run_add64 (m3 % 18446744073709551616) (m2 / 18446744073709551616) (cW2 m0 m1 m2) cc2 W
  rw [show ((0 : Nat) : Int) = 0 from rfl] at A1
  have wt1 : Wd (tW1 m0 m1) := aS_wd _ _ _
  have wt2 : Wd (tW2 m0 m1 m2) := aS_wd _ _ _
  have wt3 : Wd (tW3 m0 m1 m2 m3) := aS_wd _ _ _
  have wt0 : Wd (m0 % 18446744073709551616) := by unfold Wd; omega
  change ∀ W, Sem.run _ _ W = .ok (Next.value (.tuple #[.int .u64 (tW1 m0 m1 : Nat), .int .u64 (cW1 m0 m1 : Nat)])) W at A1
  change ∀ W, Sem.run _ _ W = .ok (Next.value (.tuple #[.int .u64 (tW2 m0 m1 m2 : Nat), .int .u64 (cW2 m0 m1 m2 : Nat)])) W at A2
  obtain ⟨c3, hc3⟩ : ∃ c3, c3 = aC (m3 % 18446744073709551616) (m2 / 18446744073709551616) (cW2 m0 m1 m2) := ⟨_, rfl⟩
  rw [← hc3] at A3
  change ∀ W, Sem.run _ _ W = .ok (Next.value (.tuple #[.int .u64 (tW3 m0 m1 m2 m3 : Nat), .int .u64 (c3 : Nat)])) W at A3
  have e0l : loW a0 r0 = m0 % 18446744073709551616 := by unfold loW; rw [hm0]
  have e0h : hiW a0 r0 = m0 / 18446744073709551616 := by unfold hiW; rw [hm0]
  have e3l : loW a2 r1 = m3 % 18446744073709551616 := by unfold loW; rw [hm3]
  have e3h : hiW a2 r1 = m3 / 18446744073709551616 := by unfold hiW; rw [hm3]
  rw [e0l, e0h] at T0
  rw [e3l, e3h] at T5
  clear e0l e0h e3l e3h hm0 hm1 hm2 hm3 hV hc3 b0 b1 b2 b3 b4 cc1 cc2
  have hlow := fun h => words_low (m0 % 18446744073709551616) (tW1 m0 m1) (tW2 m0 m1 m2) (tW3 m0 m1 m2 m3) V wt0 wt1 wt2 h
  have hlow := hlow hsum
  clear hsum
  generalize tW1 m0 m1 = t1 at *
  generalize tW2 m0 m1 m2 = t2 at *
  generalize tW3 m0 m1 m2 m3 = t3 at *
  generalize cW1 m0 m1 = c1 at *
  generalize cW2 m0 m1 m2 = c2 at *
  generalize m0 % 18446744073709551616 = t0 at *
  generalize m0 / 18446744073709551616 = m0h at *
  generalize m1 % 18446744073709551616 = m1l at *
  generalize m1 / 18446744073709551616 = m1h at *
  generalize m2 % 18446744073709551616 = m2l at *
  generalize m2 / 18446744073709551616 = m2h at *
  generalize m3 % 18446744073709551616 = m3l at *
  generalize m3 / 18446744073709551616 = m3h at *
  have HL := Lib.hid hlow; have HWD := Lib.hid (And.intro wt0 (And.intro wt1 (And.intro wt2 wt3)))
  have HA1 := Lib.hid A1; have HA2 := Lib.hid A2; have HA3 := Lib.hid A3
  clear hlow wt0 wt1 wt2 wt3 A1 A2 A3 d0 d1 d2 e2 k0 k1 h0 h1
  have hc : ∀ W, Below w.heap.size w W → W.cell? ⟨g, 0, none⟩ = some (.int .u64 a0) ∧ W.cell? ⟨g, 1, none⟩ = some (.int .u64 a1) ∧ W.cell? ⟨g, 2, none⟩ = some (.int .u64 a2) ∧ W.cell? ⟨g, 3, none⟩ = some (.int .u64 r0) ∧ W.cell? ⟨g, 4, none⟩ = some (.int .u64 r1) :=
    fun W h => raw_cells (Upd.start (hS.below h hS.inside))
  have HC := Lib.hid hc; have HS := Lib.hid hS
  have HB := Lib.hid (Below.refl w.heap.size w)
  clear hc hS
  go_enter Tryd.func42, Tryd.ntmps42
  go_wp2_with fail
  refine wp_region_loud 11 (Mk w 129) none (by kernel_rfl) (by kernel_rfl) (Mk.start _ _) ?_
  refine wpHead_step (fun K hK => ?_)
  refine head_want (by kernel_rfl) ⟨(.pointer (some ⟨g, 0, none⟩)), fun s W hW => ?_, ?_⟩
  · have hW := Mk.base hW
    refine quietAt_val ?_
    go_simp
  go_simp
  refine hK _ ?_
  clear hK K
  refine wpHead_step (fun K hK => ?_)
  refine head_want (by kernel_rfl) ⟨(.pointer (some ⟨g, 0, none⟩)), fun s W hW => ?_, ?_⟩
  · have hW := Mk.base hW
    refine quietAt_val ?_
    go_simp
  go_simp
  refine hK _ ?_
  clear hK K
  refine wpHead_step (fun K hK => ?_)
  refine head_want (by kernel_rfl) ⟨(.pointer (some ⟨g, 0, none⟩)), fun s W hW => ?_, ?_⟩
  · have hW := Mk.base hW
    refine quietAt_val ?_
    go_simp
  go_simp
  refine hK _ ?_
  clear hK K
  refine wpHead_step (fun K hK => ?_)
  refine head_want (by kernel_rfl) ⟨(.pointer (some ⟨g, 0, none⟩)), fun s W hW => ?_, ?_⟩
  · have hW := Mk.base hW
    refine quietAt_val ?_
    go_simp
  go_simp
  refine hK _ ?_
  clear hK K
  refine wpHead_step (fun K hK => ?_)
  refine head_want (by kernel_rfl) ⟨(.int .u64 a0), fun s W hW => ?_, ?_⟩
  · have hW := Mk.base hW
    refine quietAt_val ?_
    have hk := (HC.out W (HB.out.trans (hW.mono HB.out.size))).1
    go_simp
  go_simp
  refine hK _ ?_
  clear hK K
  refine wpHead_step (fun K hK => ?_)
  refine head_want (by kernel_rfl) ⟨(.pointer (some ⟨g, 0, none⟩)), fun s W hW => ?_, ?_⟩
  · have hW := Mk.base hW
    refine quietAt_val ?_
    go_simp
  go_simp
  refine hK _ ?_
  clear hK K
  refine wpHead_step (fun K hK => ?_)
  refine head_want (by kernel_rfl) ⟨(.pointer (some ⟨g, 0, none⟩)), fun s W hW => ?_, ?_⟩
  · have hW := Mk.base hW
    refine quietAt_val ?_
    go_simp
  go_simp
  refine hK _ ?_
  clear hK K
  refine wpHead_step (fun K hK => ?_)
  refine head_want (by kernel_rfl) ⟨(.pointer (some ⟨g, 3, none⟩)), fun s W hW => ?_, ?_⟩
  · have hW := Mk.base hW
    refine quietAt_val ?_
    go_simp
  go_simp
  refine hK _ ?_
  clear hK K
  refine wpHead_step (fun K hK => ?_)
  refine head_want (by kernel_rfl) ⟨(.pointer (some ⟨g, 3, none⟩)), fun s W hW => ?_, ?_⟩
  · have hW := Mk.base hW
    refine quietAt_val ?_
    go_simp
  go_simp
  refine hK _ ?_
  clear hK K
  refine wpHead_step (fun K hK => ?_)
  refine head_want (by kernel_rfl) ⟨(.int .u64 r0), fun s W hW => ?_, ?_⟩
  · have hW := Mk.base hW
    refine quietAt_val ?_
    have hk := (HC.out W (HB.out.trans (hW.mono HB.out.size))).2.2.2.1
    go_simp
  go_simp
  refine hK _ ?_
  clear hK K
  refine wpHead_step (fun K hK => ?_)
  refine head_want (by kernel_rfl) ⟨(wideV t0 m0h), fun s W hW => ?_, ?_⟩
  · refine head_call (f := 75) (args := (#[.int .u64 a0, .int .u64 r0])) (by go_simp) hW ?_
    have hW := Mk.base hW
    exact T0.out W
  go_simp
  refine hK _ ?_
  clear hK K
  refine wpHead_nil ?_
  refine loud_row (.tmp 21) 2 #[.int .u64 0, .int .u64 0] #[.int .u64 t0, .int .u64 m0h] (by kernel_rfl) rfl (fun W => by go_simp) (fun p => by kernel_rfl) rfl rfl (fun p => by rfl) (fun p => by rfl) (by kernel_rfl) rfl (wide_one _ _) (fun p2 => ?_)
  intro W1 ⟨hB1, hp1, hw1⟩
  have HW2 := Lib.hid hw1
  have HB := Lib.hid (HB.out.trans (hB1.mono HB.out.size))
  clear hw1 hB1 hp1
  go_wp2_with fail
  refine wp_region_loud 23 (Mk W1 129) none (by kernel_rfl) (by kernel_rfl) (Mk.start _ _) ?_
  refine wpHead_step (fun K hK => ?_)
  refine head_want (by kernel_rfl) ⟨(.pointer (some ⟨g, 0, none⟩)), fun s W hW => ?_, ?_⟩
  · have hW := Mk.base hW
    refine quietAt_val ?_
    go_simp
  go_simp
  refine hK _ ?_
  clear hK K
  refine wpHead_step (fun K hK => ?_)
  refine head_want (by kernel_rfl) ⟨(.pointer (some ⟨g, 0, none⟩)), fun s W hW => ?_, ?_⟩
  · have hW := Mk.base hW
    refine quietAt_val ?_
    go_simp
  go_simp
  refine hK _ ?_
  clear hK K
  refine wpHead_step (fun K hK => ?_)
  refine head_want (by kernel_rfl) ⟨(.pointer (some ⟨g, 0, none⟩)), fun s W hW => ?_, ?_⟩
  · have hW := Mk.base hW
    refine quietAt_val ?_
    go_simp
  go_simp
  refine hK _ ?_
  clear hK K
  refine wpHead_step (fun K hK => ?_)
  refine head_want (by kernel_rfl) ⟨(.pointer (some ⟨g, 1, none⟩)), fun s W hW => ?_, ?_⟩
  · have hW := Mk.base hW
    refine quietAt_val ?_
    go_simp
  go_simp
  refine hK _ ?_
  clear hK K
  refine wpHead_step (fun K hK => ?_)
  refine head_want (by kernel_rfl) ⟨(.int .u64 a1), fun s W hW => ?_, ?_⟩
  · have hW := Mk.base hW
    refine quietAt_val ?_
    have hk := (HC.out W (HB.out.trans (hW.mono HB.out.size))).2.1
    go_simp
  go_simp
  refine hK _ ?_
  clear hK K
  refine wpHead_step (fun K hK => ?_)
  refine head_want (by kernel_rfl) ⟨(.pointer (some ⟨g, 0, none⟩)), fun s W hW => ?_, ?_⟩
  · have hW := Mk.base hW
    refine quietAt_val ?_
    go_simp
  go_simp
  refine hK _ ?_
  clear hK K
  refine wpHead_step (fun K hK => ?_)
  refine head_want (by kernel_rfl) ⟨(.pointer (some ⟨g, 0, none⟩)), fun s W hW => ?_, ?_⟩
  · have hW := Mk.base hW
    refine quietAt_val ?_
    go_simp
  go_simp
  refine hK _ ?_
  clear hK K
  refine wpHead_step (fun K hK => ?_)
  refine head_want (by kernel_rfl) ⟨(.pointer (some ⟨g, 3, none⟩)), fun s W hW => ?_, ?_⟩
  · have hW := Mk.base hW
    refine quietAt_val ?_
    go_simp
  go_simp
  refine hK _ ?_
  clear hK K
  refine wpHead_step (fun K hK => ?_)
  refine head_want (by kernel_rfl) ⟨(.pointer (some ⟨g, 3, none⟩)), fun s W hW => ?_, ?_⟩
  · have hW := Mk.base hW
    refine quietAt_val ?_
    go_simp
  go_simp
  refine hK _ ?_
  clear hK K
  refine wpHead_step (fun K hK => ?_)
  refine head_want (by kernel_rfl) ⟨(.int .u64 r0), fun s W hW => ?_, ?_⟩
  · have hW := Mk.base hW
    refine quietAt_val ?_
    have hk := (HC.out W (HB.out.trans (hW.mono HB.out.size))).2.2.2.1
    go_simp
  go_simp
  refine hK _ ?_
  clear hK K
  refine wpHead_step (fun K hK => ?_)
  refine head_want (by kernel_rfl) ⟨(wideV (loW a1 r0) (hiW a1 r0)), fun s W hW => ?_, ?_⟩
  · refine head_call (f := 75) (args := (#[.int .u64 a1, .int .u64 r0])) (by go_simp) hW ?_
    have hW := Mk.base hW
    exact T1.out W
  go_simp
  refine hK _ ?_
  clear hK K
  refine wpHead_step (fun K hK => ?_)
  refine head_want (by kernel_rfl) ⟨(.pointer (some ⟨g, 0, none⟩)), fun s W hW => ?_, ?_⟩
  · have hW := Mk.base hW
    refine quietAt_val ?_
    go_simp
  go_simp
  refine hK _ ?_
  clear hK K
  refine wpHead_step (fun K hK => ?_)
  refine head_want (by kernel_rfl) ⟨(.pointer (some ⟨g, 0, none⟩)), fun s W hW => ?_, ?_⟩
  · have hW := Mk.base hW
    refine quietAt_val ?_
    go_simp
  go_simp
  refine hK _ ?_
  clear hK K
  refine wpHead_step (fun K hK => ?_)
  refine head_want (by kernel_rfl) ⟨(.pointer (some ⟨g, 0, none⟩)), fun s W hW => ?_, ?_⟩
  · have hW := Mk.base hW
    refine quietAt_val ?_
    go_simp
  go_simp
  refine hK _ ?_
  clear hK K
  refine wpHead_step (fun K hK => ?_)
  refine head_want (by kernel_rfl) ⟨(.pointer (some ⟨g, 0, none⟩)), fun s W hW => ?_, ?_⟩
  · have hW := Mk.base hW
    refine quietAt_val ?_
    go_simp
  go_simp
  refine hK _ ?_
  clear hK K
  refine wpHead_step (fun K hK => ?_)
  refine head_want (by kernel_rfl) ⟨(.int .u64 a0), fun s W hW => ?_, ?_⟩
  · have hW := Mk.base hW
    refine quietAt_val ?_
    have hk := (HC.out W (HB.out.trans (hW.mono HB.out.size))).1
    go_simp
  go_simp
  refine hK _ ?_
  clear hK K
  refine wpHead_step (fun K hK => ?_)
  refine head_want (by kernel_rfl) ⟨(.pointer (some ⟨g, 0, none⟩)), fun s W hW => ?_, ?_⟩
  · have hW := Mk.base hW
    refine quietAt_val ?_
    go_simp
  go_simp
  refine hK _ ?_
  clear hK K
  refine wpHead_step (fun K hK => ?_)
  refine head_want (by kernel_rfl) ⟨(.pointer (some ⟨g, 0, none⟩)), fun s W hW => ?_, ?_⟩
  · have hW := Mk.base hW
    refine quietAt_val ?_
    go_simp
  go_simp
  refine hK _ ?_
  clear hK K
  refine wpHead_step (fun K hK => ?_)
  refine head_want (by kernel_rfl) ⟨(.pointer (some ⟨g, 3, none⟩)), fun s W hW => ?_, ?_⟩
  · have hW := Mk.base hW
    refine quietAt_val ?_
    go_simp
  go_simp
  refine hK _ ?_
  clear hK K
  refine wpHead_step (fun K hK => ?_)
  refine head_want (by kernel_rfl) ⟨(.pointer (some ⟨g, 4, none⟩)), fun s W hW => ?_, ?_⟩
  · have hW := Mk.base hW
    refine quietAt_val ?_
    go_simp
  go_simp
  refine hK _ ?_
  clear hK K
  refine wpHead_step (fun K hK => ?_)
  refine head_want (by kernel_rfl) ⟨(.int .u64 r1), fun s W hW => ?_, ?_⟩
  · have hW := Mk.base hW
    refine quietAt_val ?_
    have hk := (HC.out W (HB.out.trans (hW.mono HB.out.size))).2.2.2.2
    go_simp
  go_simp
  refine hK _ ?_
  clear hK K
  refine wpHead_step (fun K hK => ?_)
  refine head_want (by kernel_rfl) ⟨(wideV (loW a0 r1) (hiW a0 r1)), fun s W hW => ?_, ?_⟩
  · refine head_call (f := 75) (args := (#[.int .u64 a0, .int .u64 r1])) (by go_simp) hW ?_
    have hW := Mk.base hW
    exact T2.out W
  go_simp
  refine hK _ ?_
  clear hK K
  refine wpHead_step (fun K hK => ?_)
  refine head_want (by kernel_rfl) ⟨(wideV m1l m1h), fun s W hW => ?_, ?_⟩
  · refine head_call (f := 76) (args := (#[wideV (loW a1 r0) (hiW a1 r0), wideV (loW a0 r1) (hiW a0 r1)])) (by go_simp) hW ?_
    have hW := Mk.base hW
    exact P1.out W
  go_simp
  refine hK _ ?_
  clear hK K
  refine wpHead_nil ?_
  refine loud_row (.tmp 44) 3 #[.int .u64 0, .int .u64 0] #[.int .u64 m1l, .int .u64 m1h] (by kernel_rfl) rfl (fun W => by go_simp) (fun p => by kernel_rfl) rfl rfl (fun p => by rfl) (fun p => by rfl) (by kernel_rfl) rfl (wide_one _ _) (fun p3 => ?_)
  intro W2 ⟨hB1, hp1, hw1⟩
  have HW3 := Lib.hid hw1
  have HW2 := Lib.hid (HW2.out.below hB1 HW2.out.inside)
  have HB := Lib.hid (HB.out.trans (hB1.mono HB.out.size))
  clear hw1 hB1 hp1
  go_wp2_with fail
  refine wp_region_loud 23 (Mk W2 129) none (by kernel_rfl) (by kernel_rfl) (Mk.start _ _) ?_
  refine wpHead_step (fun K hK => ?_)
  refine head_want (by kernel_rfl) ⟨(.pointer (some ⟨g, 0, none⟩)), fun s W hW => ?_, ?_⟩
  · have hW := Mk.base hW
    refine quietAt_val ?_
    go_simp
  go_simp
  refine hK _ ?_
  clear hK K
  refine wpHead_step (fun K hK => ?_)
  refine head_want (by kernel_rfl) ⟨(.pointer (some ⟨g, 0, none⟩)), fun s W hW => ?_, ?_⟩
  · have hW := Mk.base hW
    refine quietAt_val ?_
    go_simp
  go_simp
  refine hK _ ?_
  clear hK K
  refine wpHead_step (fun K hK => ?_)
  refine head_want (by kernel_rfl) ⟨(.pointer (some ⟨g, 0, none⟩)), fun s W hW => ?_, ?_⟩
  · have hW := Mk.base hW
    refine quietAt_val ?_
    go_simp
  go_simp
  refine hK _ ?_
  clear hK K
  refine wpHead_step (fun K hK => ?_)
  refine head_want (by kernel_rfl) ⟨(.pointer (some ⟨g, 2, none⟩)), fun s W hW => ?_, ?_⟩
  · have hW := Mk.base hW
    refine quietAt_val ?_
    go_simp
  go_simp
  refine hK _ ?_
  clear hK K
  refine wpHead_step (fun K hK => ?_)
  refine head_want (by kernel_rfl) ⟨(.int .u64 a2), fun s W hW => ?_, ?_⟩
  · have hW := Mk.base hW
    refine quietAt_val ?_
    have hk := (HC.out W (HB.out.trans (hW.mono HB.out.size))).2.2.1
    go_simp
  go_simp
  refine hK _ ?_
  clear hK K
  refine wpHead_step (fun K hK => ?_)
  refine head_want (by kernel_rfl) ⟨(.pointer (some ⟨g, 0, none⟩)), fun s W hW => ?_, ?_⟩
  · have hW := Mk.base hW
    refine quietAt_val ?_
    go_simp
  go_simp
  refine hK _ ?_
  clear hK K
  refine wpHead_step (fun K hK => ?_)
  refine head_want (by kernel_rfl) ⟨(.pointer (some ⟨g, 0, none⟩)), fun s W hW => ?_, ?_⟩
  · have hW := Mk.base hW
    refine quietAt_val ?_
    go_simp
  go_simp
  refine hK _ ?_
  clear hK K
  refine wpHead_step (fun K hK => ?_)
  refine head_want (by kernel_rfl) ⟨(.pointer (some ⟨g, 3, none⟩)), fun s W hW => ?_, ?_⟩
  · have hW := Mk.base hW
    refine quietAt_val ?_
    go_simp
  go_simp
  refine hK _ ?_
  clear hK K
  refine wpHead_step (fun K hK => ?_)
  refine head_want (by kernel_rfl) ⟨(.pointer (some ⟨g, 3, none⟩)), fun s W hW => ?_, ?_⟩
  · have hW := Mk.base hW
    refine quietAt_val ?_
    go_simp
  go_simp
  refine hK _ ?_
  clear hK K
  refine wpHead_step (fun K hK => ?_)
  refine head_want (by kernel_rfl) ⟨(.int .u64 r0), fun s W hW => ?_, ?_⟩
  · have hW := Mk.base hW
    refine quietAt_val ?_
    have hk := (HC.out W (HB.out.trans (hW.mono HB.out.size))).2.2.2.1
    go_simp
  go_simp
  refine hK _ ?_
  clear hK K
  refine wpHead_step (fun K hK => ?_)
  refine head_want (by kernel_rfl) ⟨(wideV (loW a2 r0) (hiW a2 r0)), fun s W hW => ?_, ?_⟩
  · refine head_call (f := 75) (args := (#[.int .u64 a2, .int .u64 r0])) (by go_simp) hW ?_
    have hW := Mk.base hW
    exact T3.out W
  go_simp
  refine hK _ ?_
  clear hK K
  refine wpHead_step (fun K hK => ?_)
  refine head_want (by kernel_rfl) ⟨(.pointer (some ⟨g, 0, none⟩)), fun s W hW => ?_, ?_⟩
  · have hW := Mk.base hW
    refine quietAt_val ?_
    go_simp
  go_simp
  refine hK _ ?_
  clear hK K
  refine wpHead_step (fun K hK => ?_)
  refine head_want (by kernel_rfl) ⟨(.pointer (some ⟨g, 0, none⟩)), fun s W hW => ?_, ?_⟩
  · have hW := Mk.base hW
    refine quietAt_val ?_
    go_simp
  go_simp
  refine hK _ ?_
  clear hK K
  refine wpHead_step (fun K hK => ?_)
  refine head_want (by kernel_rfl) ⟨(.pointer (some ⟨g, 0, none⟩)), fun s W hW => ?_, ?_⟩
  · have hW := Mk.base hW
    refine quietAt_val ?_
    go_simp
  go_simp
  refine hK _ ?_
  clear hK K
  refine wpHead_step (fun K hK => ?_)
  refine head_want (by kernel_rfl) ⟨(.pointer (some ⟨g, 1, none⟩)), fun s W hW => ?_, ?_⟩
  · have hW := Mk.base hW
    refine quietAt_val ?_
    go_simp
  go_simp
  refine hK _ ?_
  clear hK K
  refine wpHead_step (fun K hK => ?_)
  refine head_want (by kernel_rfl) ⟨(.int .u64 a1), fun s W hW => ?_, ?_⟩
  · have hW := Mk.base hW
    refine quietAt_val ?_
    have hk := (HC.out W (HB.out.trans (hW.mono HB.out.size))).2.1
    go_simp
  go_simp
  refine hK _ ?_
  clear hK K
  refine wpHead_step (fun K hK => ?_)
  refine head_want (by kernel_rfl) ⟨(.pointer (some ⟨g, 0, none⟩)), fun s W hW => ?_, ?_⟩
  · have hW := Mk.base hW
    refine quietAt_val ?_
    go_simp
  go_simp
  refine hK _ ?_
  clear hK K
  refine wpHead_step (fun K hK => ?_)
  refine head_want (by kernel_rfl) ⟨(.pointer (some ⟨g, 0, none⟩)), fun s W hW => ?_, ?_⟩
  · have hW := Mk.base hW
    refine quietAt_val ?_
    go_simp
  go_simp
  refine hK _ ?_
  clear hK K
  refine wpHead_step (fun K hK => ?_)
  refine head_want (by kernel_rfl) ⟨(.pointer (some ⟨g, 3, none⟩)), fun s W hW => ?_, ?_⟩
  · have hW := Mk.base hW
    refine quietAt_val ?_
    go_simp
  go_simp
  refine hK _ ?_
  clear hK K
  refine wpHead_step (fun K hK => ?_)
  refine head_want (by kernel_rfl) ⟨(.pointer (some ⟨g, 4, none⟩)), fun s W hW => ?_, ?_⟩
  · have hW := Mk.base hW
    refine quietAt_val ?_
    go_simp
  go_simp
  refine hK _ ?_
  clear hK K
  refine wpHead_step (fun K hK => ?_)
  refine head_want (by kernel_rfl) ⟨(.int .u64 r1), fun s W hW => ?_, ?_⟩
  · have hW := Mk.base hW
    refine quietAt_val ?_
    have hk := (HC.out W (HB.out.trans (hW.mono HB.out.size))).2.2.2.2
    go_simp
  go_simp
  refine hK _ ?_
  clear hK K
  refine wpHead_step (fun K hK => ?_)
  refine head_want (by kernel_rfl) ⟨(wideV (loW a1 r1) (hiW a1 r1)), fun s W hW => ?_, ?_⟩
  · refine head_call (f := 75) (args := (#[.int .u64 a1, .int .u64 r1])) (by go_simp) hW ?_
    have hW := Mk.base hW
    exact T4.out W
  go_simp
  refine hK _ ?_
  clear hK K
  refine wpHead_step (fun K hK => ?_)
  refine head_want (by kernel_rfl) ⟨(wideV m2l m2h), fun s W hW => ?_, ?_⟩
  · refine head_call (f := 76) (args := (#[wideV (loW a2 r0) (hiW a2 r0), wideV (loW a1 r1) (hiW a1 r1)])) (by go_simp) hW ?_
    have hW := Mk.base hW
    exact P2.out W
  go_simp
  refine hK _ ?_
  clear hK K
  refine wpHead_nil ?_
  refine loud_row (.tmp 67) 4 #[.int .u64 0, .int .u64 0] #[.int .u64 m2l, .int .u64 m2h] (by kernel_rfl) rfl (fun W => by go_simp) (fun p => by kernel_rfl) rfl rfl (fun p => by rfl) (fun p => by rfl) (by kernel_rfl) rfl (wide_one _ _) (fun p4 => ?_)
  intro W3 ⟨hB1, hp1, hw1⟩
  have HW4 := Lib.hid hw1
  have HW3 := Lib.hid (HW3.out.below hB1 HW3.out.inside)
  have HW2 := Lib.hid (HW2.out.below hB1 HW2.out.inside)
  have HB := Lib.hid (HB.out.trans (hB1.mono HB.out.size))
  clear hw1 hB1 hp1
  go_wp2_with fail
  refine wp_region_loud 11 (Mk W3 129) none (by kernel_rfl) (by kernel_rfl) (Mk.start _ _) ?_
  refine wpHead_step (fun K hK => ?_)
  refine head_want (by kernel_rfl) ⟨(.pointer (some ⟨g, 0, none⟩)), fun s W hW => ?_, ?_⟩
  · have hW := Mk.base hW
    refine quietAt_val ?_
    go_simp
  go_simp
  refine hK _ ?_
  clear hK K
  refine wpHead_step (fun K hK => ?_)
  refine head_want (by kernel_rfl) ⟨(.pointer (some ⟨g, 0, none⟩)), fun s W hW => ?_, ?_⟩
  · have hW := Mk.base hW
    refine quietAt_val ?_
    go_simp
  go_simp
  refine hK _ ?_
  clear hK K
  refine wpHead_step (fun K hK => ?_)
  refine head_want (by kernel_rfl) ⟨(.pointer (some ⟨g, 0, none⟩)), fun s W hW => ?_, ?_⟩
  · have hW := Mk.base hW
    refine quietAt_val ?_
    go_simp
  go_simp
  refine hK _ ?_
  clear hK K
  refine wpHead_step (fun K hK => ?_)
  refine head_want (by kernel_rfl) ⟨(.pointer (some ⟨g, 2, none⟩)), fun s W hW => ?_, ?_⟩
  · have hW := Mk.base hW
    refine quietAt_val ?_
    go_simp
  go_simp
  refine hK _ ?_
  clear hK K
  refine wpHead_step (fun K hK => ?_)
  refine head_want (by kernel_rfl) ⟨(.int .u64 a2), fun s W hW => ?_, ?_⟩
  · have hW := Mk.base hW
    refine quietAt_val ?_
    have hk := (HC.out W (HB.out.trans (hW.mono HB.out.size))).2.2.1
    go_simp
  go_simp
  refine hK _ ?_
  clear hK K
  refine wpHead_step (fun K hK => ?_)
  refine head_want (by kernel_rfl) ⟨(.pointer (some ⟨g, 0, none⟩)), fun s W hW => ?_, ?_⟩
  · have hW := Mk.base hW
    refine quietAt_val ?_
    go_simp
  go_simp
  refine hK _ ?_
  clear hK K
  refine wpHead_step (fun K hK => ?_)
  refine head_want (by kernel_rfl) ⟨(.pointer (some ⟨g, 0, none⟩)), fun s W hW => ?_, ?_⟩
  · have hW := Mk.base hW
    refine quietAt_val ?_
    go_simp
  go_simp
  refine hK _ ?_
  clear hK K
  refine wpHead_step (fun K hK => ?_)
  refine head_want (by kernel_rfl) ⟨(.pointer (some ⟨g, 3, none⟩)), fun s W hW => ?_, ?_⟩
  · have hW := Mk.base hW
    refine quietAt_val ?_
    go_simp
  go_simp
  refine hK _ ?_
  clear hK K
  refine wpHead_step (fun K hK => ?_)
  refine head_want (by kernel_rfl) ⟨(.pointer (some ⟨g, 4, none⟩)), fun s W hW => ?_, ?_⟩
  · have hW := Mk.base hW
    refine quietAt_val ?_
    go_simp
  go_simp
  refine hK _ ?_
  clear hK K
  refine wpHead_step (fun K hK => ?_)
  refine head_want (by kernel_rfl) ⟨(.int .u64 r1), fun s W hW => ?_, ?_⟩
  · have hW := Mk.base hW
    refine quietAt_val ?_
    have hk := (HC.out W (HB.out.trans (hW.mono HB.out.size))).2.2.2.2
    go_simp
  go_simp
  refine hK _ ?_
  clear hK K
  refine wpHead_step (fun K hK => ?_)
  refine head_want (by kernel_rfl) ⟨(wideV m3l m3h), fun s W hW => ?_, ?_⟩
  · refine head_call (f := 75) (args := (#[.int .u64 a2, .int .u64 r1])) (by go_simp) hW ?_
    have hW := Mk.base hW
    exact T5.out W
  go_simp
  refine hK _ ?_
  clear hK K
  refine wpHead_nil ?_
  refine loud_row (.tmp 78) 5 #[.int .u64 0, .int .u64 0] #[.int .u64 m3l, .int .u64 m3h] (by kernel_rfl) rfl (fun W => by go_simp) (fun p => by kernel_rfl) rfl rfl (fun p => by rfl) (fun p => by rfl) (by kernel_rfl) rfl (wide_one _ _) (fun p5 => ?_)
  intro W4 ⟨hB1, hp1, hw1⟩
  obtain ⟨x50, x51⟩ := wide_cells hw1
  obtain ⟨x40, x41⟩ := wide_cells (HW4.out.below hB1 HW4.out.inside)
  obtain ⟨x30, x31⟩ := wide_cells (HW3.out.below hB1 HW3.out.inside)
  obtain ⟨x20, x21⟩ := wide_cells (HW2.out.below hB1 HW2.out.inside)
  have HB := Lib.hid (HB.out.trans (hB1.mono HB.out.size))
  clear hw1 hB1 hp1
  have U0 := Upd.start (HS.out.below HB.out HS.out.inside)
  have f0 := U0.frozen 0; have f1 := U0.frozen 1; have f2 := U0.frozen 2
  obtain ⟨k0, k1, k2, k3, k4⟩ := raw_cells U0
  have y1 := HA1.out; have y2 := HA2.out; have y3 := HA3.out
  have q3 := u64_and3 t2 HWD.out.2.2.1
  rw [show ((t2 % 4 : Nat) : Int) = (t2 : Int) % 4 by omega] at q3
  have qn := u64_andNot3 t2 HWD.out.2.2.1
  go_wp2_with fail
  have e5 : rawI t0 t1 (t2 % 4) r0 r1 = sumI (of3 t0 t1 (t2 % 4)) r0 r1 := by
    rw [← rawI_of, of3_w0 _ _ _ HWD.out.1, of3_w1 _ _ _ HWD.out.1 HWD.out.2.1, of3_w2 _ _ _ HWD.out.1 HWD.out.2.1 (by unfold Wd; omega)]
  have U5 : Upd W4 _ g t .u64 (rawI t0 t1 (t2 % 4) r0 r1) := ((U0.set 0 (t0 : Nat)).set 1 (t1 : Nat)).set 2 ((t2 % 4 : Nat) : Int)
  rw [show ((t2 % 4 : Nat) : Int) = (t2 : Int) % 4 by omega, e5] at U5
  clear e5 q3 qn y1 y2 y3 k0 k1 k2 k3 k4 f0 f1 f2 x20 x21 x30 x31 x40 x41 x50 x51
  generalize (((W4.setCell ⟨g, 0, none⟩ (.int .u64 (t0 : Nat))).setCell ⟨g, 1, none⟩ (.int .u64 (t1 : Nat))).setCell ⟨g, 2, none⟩ (.int .u64 ((t2 : Int) % 4))) = W5 at U5 ⊢
  have HU5 := Lib.hid U5
  clear U5 U0
  refine (sadd_calls g t _ r0 r1 (t2 - t2 % 4) t3 0 (by have := HWD.out.2.2.1; unfold Wd at *; omega) HWD.out.2.2.2 (by decide) W5 HU5.out.blk).mono ?_
  rintro e W6 ⟨rfl, U6⟩
  have HU6 := Lib.hid U6
  clear U6
  go_wp2_with fail
  have hb : bits .or .u64 ((t2 : Int) / 4) (IntKind.u64.wrap ((t3 : Int) * 4611686018427387904)) = ((t2 / 4 + t3 % 4 * 4611686018427387904 : Nat) : Int) := by
    have := HWD.out.2.2.1; have := HWD.out.2.2.2
    unfold Wd at *
    rw [← u64_or62 (t2 / 4) (t3 % 4) (by omega) (by omega)]
    congr 1
    rw [IntKind.wrap_u64]
    omega
  rw [hb, show ((t3 : Int) / 4) = ((t3 / 4 : Nat) : Int) by omega]
  clear hb
  refine (sadd_calls g t _ r0 r1 (t2 / 4 + t3 % 4 * 4611686018427387904) (t3 / 4) 0 (by have := HWD.out.2.2.1; unfold Wd at *; omega) (by have := HWD.out.2.2.2; unfold Wd at *; omega) (by decide) W6 HU6.out.blk).mono ?_
  rw [HL.out]
  rintro e W7 ⟨rfl, U7⟩
  have HU7 := Lib.hid U7
  clear U7
  go_wp2_with fail
  go_end0
  exact ⟨rfl, only_trans (only_trans (only_trans (only_of_below HB.out (some g)) HU5.out.only) HU6.out.only) HU7.out.only, HU7.out.blk⟩
end Go.Proofs.YtfoljmpphbhobaaDoor
