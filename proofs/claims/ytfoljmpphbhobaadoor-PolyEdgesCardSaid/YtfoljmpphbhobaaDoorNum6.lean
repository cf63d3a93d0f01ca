/- The walks of the reference's Power and Half, at 130. -/
import Derived.Test.YtfoljmpphbhobaaDoorNum5
namespace Go.Proofs.YtfoljmpphbhobaaDoor
open Go.RowKit Go.Spk
set_option linter.unusedVariables false
/-- 2^130, under a name. -/
def P130 : Nat := 2 ^ 130
theorem dg_p130 : dg (P130) = [0, 0, 0, 0, 0, 0, 0, 0, 4] := by
  have h := dg_of_take [0, 0, 0, 0, 0, 0, 0, 0, 4] 9 (fun i => by
    by_cases h : i < 9
    · revert i; decide
    · rw [ix_end _ _ (by simp; omega)]; omega) (by decide) (fun i hi => ix_end _ _ (by simpa using hi)) (.inr (by decide))
  rw [show (nv [0, 0, 0, 0, 0, 0, 0, 0, 4]).toNat = P130 by decide +kernel] at h
  exact h.symm
set_option maxRecDepth 100000 in
set_option maxHeartbeats 2000000 in
theorem power_calls (w : World) : Calls Tryd.prog 47 #[.int .i64 130] w (Gives w (P130)) := by
  go_enter Tryd.func47, Tryd.ntmps47
  obtain ⟨i, f1, f2, f3, f4⟩ := info_of (P := Tryd.prog) (e := 3) (k := .i64) (bytes := 8) (by kernel_rfl)
  obtain ⟨w1, hrun, hO, hg⟩ := run_make_full (P := Tryd.prog) w w.heap.size 56 3 i (.int .i64 0) 1 Tryd.underlying56 f1 f2 f3 .i64 .i64 9 (by rw [f4]; decide) (by decide) (Nat.le_refl _)
  rw [show ((9 : Nat) : Int) = 9 from rfl] at hrun
  have hO' : Own w1 w.heap.size 3 .i64 w.heap.size 9 9 (List.replicate 9 0) := by
    rw [show (madeCells (Value.int .i64 0).cells (9 * 1)).toList = (List.replicate 9 (0 : Int)).map (Value.int .i64) by kernel_rfl] at hO
    exact hO
  have c0 := hO'.cell 8 (by decide)
  have z0 := hO'.frozen 8
  have HO := Lib.hid hO'
  clear hO hO' f1 f2 f3 f4
  go_wp2_with fail
  go_ret
  have hF := HO.out.set 8 4
  refine ⟨w.heap.size, 9, by rw [dg_p130]; rfl, ?_, ((Below.refl _ w).grown hg (Nat.le_refl _) (fun q hq => by cases hq)).grown (only_stored (g := w.heap.size) _ rfl _) ?_ (fun q hq => by injection hq with hq; omega)⟩
  · rw [dg_p130]; exact Dr.of_own hF
  · exact hg.size
theorem half_digit (a k : Nat) : (ix (dg a) (8 + k) + ix (dg a) (8 + k + 1) * 65536) / 4 % 65536 = ((a / P130 / 65536 ^ k % 65536 : Nat) : Int) := by
  rw [ix_dg, ix_dg]
  have e : a / P130 / 65536 ^ k = a / 65536 ^ (8 + k) / 4 := by
    rw [Nat.div_div_eq_div_mul, Nat.div_div_eq_div_mul, Nat.pow_add]
    congr 1
    rw [show P130 = 65536 ^ 8 * 4 by decide +kernel]
    rw [Nat.mul_assoc, Nat.mul_comm 4, ← Nat.mul_assoc]
  rw [e, Nat.pow_succ, ← Nat.div_div_eq_div_mul]
  omega
set_option maxRecDepth 100000 in
set_option maxHeartbeats 2000000 in
theorem half_calls (a ga ca : Nat) (w : World) (hA : Dr w ga ca (dg a)) (sa : (dg a).length ≤ 1000) :
    Calls Tryd.prog 53 #[.slice (some ⟨ga, 0, none⟩) (dg a).length ca, .int .i64 130] w (Gives w (a / P130)) := by
  have hra := hA.room
  have hma := hA.max
  unfold maxLen at hma
  generalize hla : (dg a).length = la at sa hra
  have HLA := Lib.hid hla
  clear hla
  by_cases h8 : la ≤ 8
  · have i0 : (8 : Int) ≥ la := by omega
    have i1 : (la : Int) ≤ 8 := by omega
    have hv : dg (a / P130) = [] := by
      have := lt_pow_len a
      rw [HLA.out] at this
      have h2 : 65536 ^ la ≤ 65536 ^ 8 := Nat.pow_le_pow_right (by decide) h8
      have h3 : 65536 ^ 8 ≤ P130 := by decide +kernel
      have h4 : a < P130 := Nat.lt_of_lt_of_le this (Nat.le_trans h2 h3)
      rw [Nat.div_eq_of_lt h4, dg_zero]
    have HV := Lib.hid hv
    clear hv
    go_enter Tryd.func53, Tryd.ntmps53
    go_wp2_with fail
    go_ret
    exact ⟨w.heap.size, 0, by rw [HV.out]; rfl, by rw [HV.out]; exact ⟨by simp, by simp, by decide, fun i hi => by simp at hi⟩, (Below.refl _ w).alloc (Nat.le_refl _) _⟩
  · have i1 : ¬ (la : Int) ≤ 8 := by omega
    have i2 : (8 : Int) ≤ la := by omega
    have i3 : 8 ≤ la := by omega
    have hda := dg_digs a
    have e1 : ((la - 8 : Nat) : Int) = (la : Int) - 8 := by omega
    go_enter Tryd.func53, Tryd.ntmps53
    go_wp2_with fail
    clear e1
    generalize hn : la - 8 = n
    have HN := Lib.hid hn
    go_loopw [5, 21] (fun v i wr => ∃ k g cap : Nat, k ≤ n ∧ i = .int .i64 k ∧ v = .slice (some ⟨g, 0, none⟩) k cap ∧ Own wr w.heap.size 3 .i64 g k cap (smallT (a / P130) k) ∧ Below w.heap.size w wr) (fun _ i _ => n - (intOf i).toNat)
    case atStart => exact ⟨0, w.heap.size, 0, by omega, rfl, rfl, Own.made rfl (Nat.le_refl _) (by decide) rfl rfl, (Below.refl _ w).alloc (Nat.le_refl _) _⟩
    case round =>
      obtain ⟨k, g1, cap1, hk, rfl, rfl, hO, hW⟩ := hrel
      have hAr := hA.on hW
      have hd1 := hda (8 + k)
      have hd2 := hda (8 + k + 1)
      have hdig := half_digit a k
      by_cases h1 : k < n
      · have ca0 := hAr.cell (8 + k) (by rw [HLA.out]; omega)
        have cb0 := hAr.cell (8 + k + 1)
        have ez := ix_end (dg a) (8 + k + 1)
        rw [HLA.out] at cb0 ez
        generalize ix (dg a) (8 + k) = x at ca0 hd1 hdig
        generalize ix (dg a) (8 + k + 1) = y at cb0 hd2 hdig ez
        have HDIG := Lib.hid hdig; have EZ := Lib.hid ez; have CB := Lib.hid cb0
        clear hdig ez cb0 hda hAr
        have j1 : (k : Int) < n := by omega
        have j2 : (0 : Int) ≤ (k : Int) + 1 := by omega
        have j4 : (k : Int) < la - 8 := by omega
        by_cases h2 : k + 1 < n
        · have cb : wr.cell? ⟨ga, 8 + (k + 1), none⟩ = some (.int .i64 y) := CB.out (by omega)
          have j3 : (k : Int) + 1 < n := by omega
          go_wp2_with (at_builtin; refine wpList_push rfl (.tmp 41) (.tmp 47) 56 rfl 8 Tryd.underlying56 (by kernel_rfl) rfl (hO.alloc _) ⟨wr.heap.size, 0, none⟩ 1 1 [(x + y * 65536) / 4 % 65536] rfl rfl (cell_one (by simp)) (by omega) (by omega) (by omega) ?_; intro g' cap' wz hO1 hgr hat)
          go_roundw
          case rel => exact ⟨k + 1, g', cap', by omega, by go_num, rfl, by rw [smallT_succ, ← HDIG.out]; exact hO1, (hW.alloc hW.size _).grown hgr (by simp; exact Nat.le_succ_of_le hW.size) (fun q hq => by injection hq with hq; subst hq; exact hO.lt.1)⟩
          case measure => simp [intOf]; omega
        · have j3 : ¬ (k : Int) + 1 < n := by omega
          have zy : y = 0 := EZ.out (by omega)
          have ZY := Lib.hid zy
          clear zy
          go_wp2_with (at_builtin; refine wpList_push rfl (.tmp 41) (.tmp 47) 56 rfl 8 Tryd.underlying56 (by kernel_rfl) rfl (hO.alloc _) ⟨wr.heap.size, 0, none⟩ 1 1 [x / 4 % 65536] rfl rfl (cell_one (by simp)) (by omega) (by omega) (by omega) ?_; intro g' cap' wz hO1 hgr hat)
          go_roundw
          case rel => exact ⟨k + 1, g', cap', by omega, by go_num, rfl, by rw [smallT_succ, ← HDIG.out, ZY.out, Int.zero_mul, Int.add_zero]; exact hO1, (hW.alloc hW.size _).grown hgr (by simp; exact Nat.le_succ_of_le hW.size) (fun q hq => by injection hq with hq; subst hq; exact hO.lt.1)⟩
          case measure => simp [intOf]; omega
      · obtain rfl : k = n := by omega
        have hsum : a / P130 < 65536 ^ k := by
          have e1 := lt_pow_len a
          rw [HLA.out] at e1
          rw [Nat.div_lt_iff_lt_mul (by decide +kernel)]
          refine Nat.lt_of_lt_of_le e1 ?_
          rw [show la = k + 8 by omega, Nat.pow_add]
          exact Nat.mul_le_mul_left _ (by decide +kernel)
        have hts := trim_smallT (a / P130) k hsum
        have HTS := Lib.hid hts
        have hl := hO.len
        have hDr := Dr.of_own hO
        have hdd := smallT_digs (a / P130) k
        generalize smallT (a / P130) k = L at hl hDr hdd HTS
        have j4 : ¬ (k : Int) < la - 8 := by omega
        clear hts hsum hO hda hd1 hd2 hdig hAr
        have HL := Lib.hid hl
        clear hl
        go_wp2_with fail
        refine (HL.out ▸ trim_calls g1 cap1 L wr hDr hdd).mono ?_
        rintro e w' ⟨rfl, rfl, hR⟩
        rw [HTS.out] at hR ⊢
        go_wp2_with fail
        go_ret
        exact ⟨g1, cap1, rfl, hR, hW⟩
end Go.Proofs.YtfoljmpphbhobaaDoor
