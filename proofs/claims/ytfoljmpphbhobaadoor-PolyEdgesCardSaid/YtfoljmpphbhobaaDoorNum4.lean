/- The walk of the reference's Add. -/
import Derived.Test.YtfoljmpphbhobaaDoorNum3
namespace Go.Proofs.YtfoljmpphbhobaaDoor
open Go.RowKit Go.Spk
set_option linter.unusedVariables false
theorem nv_smallT (n k : Nat) : nv (smallT n k) = ((n % 65536 ^ k : Nat) : Int) := by
  induction k generalizing n with
  | zero => simp [smallT, nv, pv, Nat.mod_one]
  | succ k ih =>
    have e : smallT n (k + 1) = ((n % 65536 : Nat) : Int) :: smallT (n / 65536) k := by
      unfold smallT
      rw [List.range_succ_eq_map, List.map_cons, List.map_map]
      congr 1
      · simp
      · apply List.map_congr_left
        intro j _
        simp only [Function.comp_def, Nat.succ_eq_add_one]
        rw [Nat.div_div_eq_div_mul, Nat.pow_succ, Nat.mul_comm 65536]
    rw [e, nv_cons, ih, Nat.pow_succ, Nat.mul_comm (65536 ^ k) 65536, Nat.mod_mul]
    omega
theorem smallT_digs (n k : Nat) : Digs (smallT n k) := by
  intro i
  by_cases h : i < k
  · have : ix (smallT n k) i = ((n / 65536 ^ i % 65536 : Nat) : Int) := by simp [ix, smallT, List.getD, h]
    rw [this]; omega
  · rw [ix_end _ _ (by rw [smallT_length]; omega)]; omega
theorem trim_smallT (n k : Nat) (h : n < 65536 ^ k) : (nv (smallT n k)).toNat = n := by
  rw [nv_smallT, Nat.mod_eq_of_lt h]; omega
/-- The carry into digit k. -/
def carry (a b k : Nat) : Nat := (a % 65536 ^ k + b % 65536 ^ k) / 65536 ^ k
theorem pow_pos' (k : Nat) : 0 < 65536 ^ k := Nat.pow_pos (by decide)
theorem carry_zero (a b : Nat) : carry a b 0 = 0 := by simp [carry, Nat.mod_one]
theorem carry_le (a b k : Nat) : carry a b k ≤ 1 := by
  unfold carry
  have h1 := Nat.mod_lt a (pow_pos' k)
  have h2 := Nat.mod_lt b (pow_pos' k)
  have : (a % 65536 ^ k + b % 65536 ^ k) / 65536 ^ k < 2 := by
    rw [Nat.div_lt_iff_lt_mul (pow_pos' k)]; omega
  omega
theorem carry_div (a b k : Nat) : (a + b) / 65536 ^ k = a / 65536 ^ k + b / 65536 ^ k + carry a b k := by
  unfold carry
  have h1 := Nat.div_add_mod a (65536 ^ k)
  have h2 := Nat.div_add_mod b (65536 ^ k)
  have hp := pow_pos' k
  generalize 65536 ^ k = P at *
  have e : a + b = (a % P + b % P) + P * (a / P + b / P) := by rw [Nat.mul_add]; omega
  conv => lhs; rw [e]
  rw [Nat.add_mul_div_left _ _ hp]
  omega
theorem carry_digit (a b k : Nat) : ((carry a b k : Int) + ix (dg a) k + ix (dg b) k) % 65536 = (((a + b) / 65536 ^ k % 65536 : Nat) : Int) := by
  rw [ix_dg, ix_dg, carry_div]; omega
theorem carry_next (a b k : Nat) : ((carry a b k : Int) + ix (dg a) k + ix (dg b) k) / 65536 = (carry a b (k + 1) : Int) := by
  rw [ix_dg, ix_dg]
  have e : carry a b (k + 1) = (carry a b k + a / 65536 ^ k % 65536 + b / 65536 ^ k % 65536) / 65536 := by
    unfold carry
    rw [Nat.pow_succ, Nat.mod_mul, Nat.mod_mul, ← Nat.div_div_eq_div_mul]
    have hp := pow_pos' k
    generalize 65536 ^ k = P at *
    rw [show a % P + P * (a / P % 65536) + (b % P + P * (b / P % 65536)) = (a % P + b % P) + P * (a / P % 65536 + b / P % 65536) by rw [Nat.mul_add]; omega, Nat.add_mul_div_left _ _ hp]
    congr 1; omega
  rw [e]; omega
theorem carry_end (a b k : Nat) (ha : (dg a).length < k) (hb : (dg b).length < k) : carry a b k = 0 := by
  unfold carry
  obtain ⟨j, rfl⟩ : ∃ j, k = j + 1 := ⟨k - 1, by omega⟩
  have h1 : a < 65536 ^ j := Nat.lt_of_lt_of_le (lt_pow_len a) (Nat.pow_le_pow_right (by decide) (by omega))
  have h2 : b < 65536 ^ j := Nat.lt_of_lt_of_le (lt_pow_len b) (Nat.pow_le_pow_right (by decide) (by omega))
  have h3 : 65536 ^ (j + 1) = 65536 ^ j * 65536 := Nat.pow_succ ..
  rw [Nat.mod_eq_of_lt (by omega), Nat.mod_eq_of_lt (by omega)]
  exact Nat.div_eq_of_lt (by omega)
set_option maxRecDepth 100000 in
set_option maxHeartbeats 2000000 in
theorem add_calls (a b ga ca gb cb : Nat) (w : World) (hA : Dr w ga ca (dg a)) (hB : Dr w gb cb (dg b)) (sa : (dg a).length ≤ 1000) (sb : (dg b).length ≤ 1000) :
    Calls Tryd.prog 50 #[.slice (some ⟨ga, 0, none⟩) (dg a).length ca, .slice (some ⟨gb, 0, none⟩) (dg b).length cb] w (Gives w (a + b)) := by
  have hra := hA.room
  have hma := hA.max
  have hrb := hB.room
  have hmb := hB.max
  unfold maxLen at hma hmb
  have hda := dg_digs a
  have hdb := dg_digs b
  generalize hla : (dg a).length = la at sa hra
  generalize hlb : (dg b).length = lb at sb hrb
  have HLA := Lib.hid hla; have HLB := Lib.hid hlb
  clear hla hlb
  go_enter Tryd.func50, Tryd.ntmps50
  go_wp2_with fail
  go_loopw [5, 6, 7] (fun v c i wr => ∃ k g cap : Nat, k ≤ max la lb + 1 ∧ i = .int .i64 k ∧ c = .int .i64 (carry a b k : Nat) ∧ v = .slice (some ⟨g, 0, none⟩) k cap ∧ Own wr w.heap.size 3 .i64 g k cap (smallT (a + b) k) ∧ Below w.heap.size w wr) (fun _ _ i _ => la + lb + 2 - (intOf i).toNat)
  case atStart => exact ⟨0, w.heap.size, 0, by omega, rfl, by rw [carry_zero]; rfl, rfl, Own.made rfl (Nat.le_refl _) (by decide) rfl rfl, (Below.refl _ w).alloc (Nat.le_refl _) _⟩
  case round =>
    obtain ⟨k, g1, cap1, hk, rfl, rfl, rfl, hO, hW⟩ := hrel
    have hAr := hA.on hW
    have hBr := hB.on hW
    have hc1 := carry_le a b k
    have hdig := carry_digit a b k
    have hnx := carry_next a b k
    have hend := carry_end a b k
    rw [HLA.out, HLB.out] at hend
    have hx := hda k
    have hy := hdb k
    generalize hcc : carry a b k = c at *
    have HC := Lib.hid hcc
    have ea : la ≤ k → ix (dg a) k = 0 := fun h => ix_end _ _ (by rw [HLA.out]; exact h)
    have eb : lb ≤ k → ix (dg b) k = 0 := fun h => ix_end _ _ (by rw [HLB.out]; exact h)
    have EA := Lib.hid ea; have EB := Lib.hid eb
    have HDIG := Lib.hid hdig; have HNX := Lib.hid hnx; have HEND := Lib.hid hend
    have HAR := Lib.hid hAr; have HBR := Lib.hid hBr
    generalize hX : ix (dg a) k = x at hx
    generalize hY : ix (dg b) k = y at hy
    have HX := Lib.hid hX; have HY := Lib.hid hY
    obtain ⟨x0, x1⟩ := hx
    obtain ⟨y0, y1⟩ := hy
    clear ea eb hdig hnx hend hAr hBr hcc hX hY hda hdb
    by_cases h1 : k < la
    · by_cases h2 : k < lb
      · skip
        have ca0 := HAR.out.cell k (by rw [HLA.out]; omega)
        rw [HX.out] at ca0
        have i1 : (k : Int) < la := by omega
        have cb0 := HBR.out.cell k (by rw [HLB.out]; omega)
        rw [HY.out] at cb0
        have i2 : (k : Int) < lb := by omega
        have hdv : ((c : Int) + x + y) % 65536 = (((a + b) / 65536 ^ k % 65536 : Nat) : Int) := by have := HDIG.out; rw [HX.out, HY.out] at this; simpa using this
        have hnv : ((c : Int) + x + y) / 65536 = (carry a b (k + 1) : Int) := by have := HNX.out; rw [HX.out, HY.out] at this; simpa using this
        have HDV := Lib.hid hdv; have HNV := Lib.hid hnv
        clear hdv hnv
        go_wp2_with (at_builtin; refine wpList_push rfl (.tmp 45) (.tmp 48) 56 rfl 8 Tryd.underlying56 (by kernel_rfl) rfl (hO.alloc _) ⟨wr.heap.size, 0, none⟩ 1 1 [((c : Int) + x + y) % 65536] rfl rfl (cell_one (by simp)) (by omega) (by omega) (by omega) ?_; intro g' cap' wz hO1 hgr hat)
        go_roundw
        case rel => exact ⟨k + 1, g', cap', by first | omega | (have := HEND.out; omega), by go_num, by rw [HNV.out], rfl, by rw [smallT_succ, ← HDV.out]; exact hO1, (hW.alloc hW.size _).grown hgr (by simp; exact Nat.le_succ_of_le hW.size) (fun q hq => by injection hq with hq; subst hq; exact hO.lt.1)⟩
        case measure => simp [intOf]; omega
      · skip
        have ca0 := HAR.out.cell k (by rw [HLA.out]; omega)
        rw [HX.out] at ca0
        have i1 : (k : Int) < la := by omega
        have i2 : ¬ (k : Int) < lb := by omega
        have zy : y = 0 := by rw [← HY.out]; exact EB.out (by omega)
        have ZY := Lib.hid zy
        clear zy
        have hdv : ((c : Int) + x) % 65536 = (((a + b) / 65536 ^ k % 65536 : Nat) : Int) := by have := HDIG.out; rw [HX.out, HY.out, ZY.out] at this; simpa using this
        have hnv : ((c : Int) + x) / 65536 = (carry a b (k + 1) : Int) := by have := HNX.out; rw [HX.out, HY.out, ZY.out] at this; simpa using this
        have HDV := Lib.hid hdv; have HNV := Lib.hid hnv
        clear hdv hnv
        go_wp2_with (at_builtin; refine wpList_push rfl (.tmp 45) (.tmp 48) 56 rfl 8 Tryd.underlying56 (by kernel_rfl) rfl (hO.alloc _) ⟨wr.heap.size, 0, none⟩ 1 1 [((c : Int) + x) % 65536] rfl rfl (cell_one (by simp)) (by omega) (by omega) (by omega) ?_; intro g' cap' wz hO1 hgr hat)
        go_roundw
        case rel => exact ⟨k + 1, g', cap', by first | omega | (have := HEND.out; omega), by go_num, by rw [HNV.out], rfl, by rw [smallT_succ, ← HDV.out]; exact hO1, (hW.alloc hW.size _).grown hgr (by simp; exact Nat.le_succ_of_le hW.size) (fun q hq => by injection hq with hq; subst hq; exact hO.lt.1)⟩
        case measure => simp [intOf]; omega
    · by_cases h2 : k < lb
      · skip
        have i1 : ¬ (k : Int) < la := by omega
        have zx : x = 0 := by rw [← HX.out]; exact EA.out (by omega)
        have ZX := Lib.hid zx
        clear zx
        have cb0 := HBR.out.cell k (by rw [HLB.out]; omega)
        rw [HY.out] at cb0
        have i2 : (k : Int) < lb := by omega
        have hdv : ((c : Int) + y) % 65536 = (((a + b) / 65536 ^ k % 65536 : Nat) : Int) := by have := HDIG.out; rw [HX.out, HY.out, ZX.out] at this; simpa using this
        have hnv : ((c : Int) + y) / 65536 = (carry a b (k + 1) : Int) := by have := HNX.out; rw [HX.out, HY.out, ZX.out] at this; simpa using this
        have HDV := Lib.hid hdv; have HNV := Lib.hid hnv
        clear hdv hnv
        go_wp2_with (at_builtin; refine wpList_push rfl (.tmp 45) (.tmp 48) 56 rfl 8 Tryd.underlying56 (by kernel_rfl) rfl (hO.alloc _) ⟨wr.heap.size, 0, none⟩ 1 1 [((c : Int) + y) % 65536] rfl rfl (cell_one (by simp)) (by omega) (by omega) (by omega) ?_; intro g' cap' wz hO1 hgr hat)
        go_roundw
        case rel => exact ⟨k + 1, g', cap', by first | omega | (have := HEND.out; omega), by go_num, by rw [HNV.out], rfl, by rw [smallT_succ, ← HDV.out]; exact hO1, (hW.alloc hW.size _).grown hgr (by simp; exact Nat.le_succ_of_le hW.size) (fun q hq => by injection hq with hq; subst hq; exact hO.lt.1)⟩
        case measure => simp [intOf]; omega
      · by_cases h3 : 0 < c
        · have i3 : (0 : Int) < c := by omega
          have hkm : k ≤ max la lb := by
            refine Nat.le_of_not_lt fun hlt => ?_
            have := HEND.out (by omega) (by omega)
            omega
          have i1 : ¬ (k : Int) < la := by omega
          have zx : x = 0 := by rw [← HX.out]; exact EA.out (by omega)
          have ZX := Lib.hid zx
          clear zx
          have i2 : ¬ (k : Int) < lb := by omega
          have zy : y = 0 := by rw [← HY.out]; exact EB.out (by omega)
          have ZY := Lib.hid zy
          clear zy
          have hdv : ((c : Int)) % 65536 = (((a + b) / 65536 ^ k % 65536 : Nat) : Int) := by have := HDIG.out; rw [HX.out, HY.out, ZX.out, ZY.out] at this; simpa using this
          have hnv : ((c : Int)) / 65536 = (carry a b (k + 1) : Int) := by have := HNX.out; rw [HX.out, HY.out, ZX.out, ZY.out] at this; simpa using this
          have HDV := Lib.hid hdv; have HNV := Lib.hid hnv
          clear hdv hnv
          go_wp2_with (at_builtin; refine wpList_push rfl (.tmp 45) (.tmp 48) 56 rfl 8 Tryd.underlying56 (by kernel_rfl) rfl (hO.alloc _) ⟨wr.heap.size, 0, none⟩ 1 1 [((c : Int)) % 65536] rfl rfl (cell_one (by simp)) (by omega) (by omega) (by omega) ?_; intro g' cap' wz hO1 hgr hat)
          go_roundw
          case rel => exact ⟨k + 1, g', cap', by first | omega | (have := HEND.out; omega), by go_num, by rw [HNV.out], rfl, by rw [smallT_succ, ← HDV.out]; exact hO1, (hW.alloc hW.size _).grown hgr (by simp; exact Nat.le_succ_of_le hW.size) (fun q hq => by injection hq with hq; subst hq; exact hO.lt.1)⟩
          case measure => simp [intOf]; omega
        · obtain rfl : c = 0 := by omega
          have i1 : ¬ (k : Int) < la := by omega
          have i2 : ¬ (k : Int) < lb := by omega
          have hsum : a + b < 65536 ^ k := by
            have e1 : a < 65536 ^ k := Nat.lt_of_lt_of_le (lt_pow_len a) (Nat.pow_le_pow_right (by decide) (by rw [HLA.out]; omega))
            have e2 : b < 65536 ^ k := Nat.lt_of_lt_of_le (lt_pow_len b) (Nat.pow_le_pow_right (by decide) (by rw [HLB.out]; omega))
            have e3 := carry_div a b k
            rw [HC.out, Nat.div_eq_of_lt e1, Nat.div_eq_of_lt e2] at e3
            refine Nat.lt_of_not_le fun hle => ?_
            have := Nat.div_pos hle (pow_pos' k)
            omega
          have hts := trim_smallT (a + b) k hsum
          have HTS := Lib.hid hts
          have hl := hO.len
          have hDr := Dr.of_own hO
          have hdd := smallT_digs (a + b) k
          generalize smallT (a + b) k = L at hl hDr hdd HTS
          clear hts hsum hO
          have HL := Lib.hid hl
          rw [show ((0 : Nat) : Int) = 0 from rfl]
          go_wp2_with fail
          refine (HL.out ▸ trim_calls g1 cap1 L wr hDr hdd).mono ?_
          rintro e w' ⟨rfl, rfl, hR⟩
          rw [HTS.out] at hR ⊢
          go_wp2_with fail
          go_ret
          exact ⟨g1, cap1, rfl, hR, hW⟩
end Go.Proofs.YtfoljmpphbhobaaDoor
