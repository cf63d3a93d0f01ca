/- The walk of the reference's Sub. -/
import Derived.Test.YtfoljmpphbhobaaDoorNum4
namespace Go.Proofs.YtfoljmpphbhobaaDoor
open Go.RowKit Go.Spk
set_option linter.unusedVariables false
/-- The borrow from digit k. -/
def borrow (a b k : Nat) : Nat := if a % 65536 ^ k < b % 65536 ^ k then 1 else 0
theorem borrow_zero (a b : Nat) : borrow a b 0 = 0 := by simp [borrow, Nat.mod_one]
theorem borrow_le (a b k : Nat) : borrow a b k ≤ 1 := by unfold borrow; split <;> omega
theorem borrow_div (a b k : Nat) (h : b ≤ a) : (((a - b) / 65536 ^ k : Nat) : Int) = ((a / 65536 ^ k : Nat) : Int) - ((b / 65536 ^ k : Nat) : Int) - (borrow a b k : Int) := by
  have h1 := Nat.div_add_mod a (65536 ^ k)
  have h2 := Nat.div_add_mod b (65536 ^ k)
  have hp := pow_pos' k
  have r1 := Nat.mod_lt a hp
  have r2 := Nat.mod_lt b hp
  unfold borrow
  generalize 65536 ^ k = P at *
  generalize a / P = x at *
  generalize b / P = y at *
  generalize a % P = r at *
  generalize b % P = s at *
  rw [Int.natCast_ediv, Int.ofNat_sub h, ← h1, ← h2]
  simp only [Int.natCast_add, Int.natCast_mul]
  have hP : (0 : Int) < P := by omega
  by_cases hrs : r < s
  · rw [if_pos hrs]
    rw [show ((P : Int) * x + r - (P * y + s)) = ((r : Int) - s + P) + P * ((x : Int) - y - 1) by rw [Int.mul_sub, Int.mul_sub]; omega]
    rw [Int.add_mul_ediv_left _ _ (by omega), Int.ediv_eq_zero_of_lt (by omega) (by omega)]
    omega
  · rw [if_neg hrs]
    rw [show ((P : Int) * x + r - (P * y + s)) = ((r : Int) - s) + P * ((x : Int) - y) by rw [Int.mul_sub]; omega]
    rw [Int.add_mul_ediv_left _ _ (by omega), Int.ediv_eq_zero_of_lt (by omega) (by omega)]
    omega
theorem borrow_next (a b k : Nat) : borrow a b (k + 1) = if ix (dg a) k - (borrow a b k : Int) - ix (dg b) k < 0 then 1 else 0 := by
  rw [ix_dg, ix_dg]
  unfold borrow
  rw [Nat.pow_succ, Nat.mod_mul, Nat.mod_mul]
  have hp := pow_pos' k
  have r1 := Nat.mod_lt a hp
  have r2 := Nat.mod_lt b hp
  generalize 65536 ^ k = P at *
  generalize a / P % 65536 = x at *
  generalize b / P % 65536 = y at *
  generalize a % P = r at *
  generalize b % P = s at *
  rcases Nat.lt_trichotomy x y with h | h | h
  · have := Nat.mul_le_mul_left P (show x + 1 ≤ y from h)
    rw [Nat.mul_add] at this
    rw [if_pos (by omega), if_pos (by split <;> omega)]
  · subst h
    by_cases hrs : r < s
    · rw [if_pos (by omega), if_pos hrs, if_pos (by omega)]
    · rw [if_neg (by omega), if_neg hrs, if_neg (by omega)]
  · have := Nat.mul_le_mul_left P (show y + 1 ≤ x from h)
    rw [Nat.mul_add] at this
    rw [if_neg (by omega), if_neg (by split <;> omega)]
theorem borrow_digit (a b k : Nat) (h : b ≤ a) (d : Int) (hd : d = ix (dg a) k - (borrow a b k : Int) - ix (dg b) k) :
    (if d < 0 then d + 65536 else d) = (((a - b) / 65536 ^ k % 65536 : Nat) : Int) := by
  have h1 := borrow_div a b k h
  have h2 := borrow_le a b k
  rw [ix_dg, ix_dg] at hd
  split <;> omega
set_option maxRecDepth 100000 in
set_option maxHeartbeats 2000000 in
theorem sub_calls (a b ga ca gb cb : Nat) (hle : b ≤ a) (w : World) (hA : Dr w ga ca (dg a)) (hB : Dr w gb cb (dg b)) (sa : (dg a).length ≤ 1000) (sb : (dg b).length ≤ 1000) :
    Calls Tryd.prog 46 #[.slice (some ⟨ga, 0, none⟩) (dg a).length ca, .slice (some ⟨gb, 0, none⟩) (dg b).length cb] w (Gives w (a - b)) := by
  have hra := hA.room
  have hma := hA.max
  have hrb := hB.room
  have hmb := hB.max
  unfold maxLen at hma hmb
  have hda := dg_digs a
  have hdb := dg_digs b
  generalize hla : (dg a).length = la at sa hra
  generalize hlb : (dg b).length = lb at sb hrb
  have HLA := Lib.hid hla; have HLB := Lib.hid hlb; have HLE := Lib.hid hle
  clear hla hlb hle
  go_enter Tryd.func46, Tryd.ntmps46
  go_wp2_with fail
  go_loopw [5, 6, 12] (fun v c i wr => ∃ k g cap : Nat, k ≤ la ∧ i = .int .i64 k ∧ c = .int .i64 (borrow a b k : Nat) ∧ v = .slice (some ⟨g, 0, none⟩) k cap ∧ Own wr w.heap.size 3 .i64 g k cap (smallT (a - b) k) ∧ Below w.heap.size w wr) (fun _ _ i _ => la - (intOf i).toNat)
  case atStart => exact ⟨0, w.heap.size, 0, by omega, rfl, by rw [borrow_zero]; rfl, rfl, Own.made rfl (Nat.le_refl _) (by decide) rfl rfl, (Below.refl _ w).alloc (Nat.le_refl _) _⟩
  case round =>
    obtain ⟨k, g1, cap1, hk, rfl, rfl, rfl, hO, hW⟩ := hrel
    by_cases h1 : k < la
    · have hAr := hA.on hW
      have hBr := hB.on hW
      have hc1 := borrow_le a b k
      have hdig := borrow_digit a b k HLE.out _ rfl
      have hnx := borrow_next a b k
      have hx := hda k
      have hy := hdb k
      generalize hcc : borrow a b k = c at *
      have HC := Lib.hid hcc
      have eb : lb ≤ k → ix (dg b) k = 0 := fun h => ix_end _ _ (by rw [HLB.out]; exact h)
      have EB := Lib.hid eb
      have HDIG := Lib.hid hdig; have HNX := Lib.hid hnx
      have HAR := Lib.hid hAr; have HBR := Lib.hid hBr
      generalize hX : ix (dg a) k = x at hx
      generalize hY : ix (dg b) k = y at hy
      have HX := Lib.hid hX; have HY := Lib.hid hY
      obtain ⟨x0, x1⟩ := hx
      obtain ⟨y0, y1⟩ := hy
      clear eb hdig hnx hAr hBr hcc hX hY hda hdb
      have ca0 := HAR.out.cell k (by rw [HLA.out]; omega)
      rw [HX.out] at ca0
      have i1 : (k : Int) < la := by omega
      by_cases h2 : k < lb
      · have cb0 := HBR.out.cell k (by rw [HLB.out]; omega)
        rw [HY.out] at cb0
        have i2 : (k : Int) < lb := by omega
        by_cases hn : x - (c : Int) - y < 0
        · skip
          have hdv : x - (c : Int) - y + 65536 = (((a - b) / 65536 ^ k % 65536 : Nat) : Int) := by have := HDIG.out; rw [HX.out, HY.out] at this; rw [if_pos (by omega)] at this; omega
          have hnv : borrow a b (k + 1) = 1 := by have := HNX.out; rw [HX.out, HY.out] at this; rw [if_pos (by omega)] at this; exact this
          have HDV := Lib.hid hdv; have HNV := Lib.hid hnv
          clear hdv hnv
          go_wp2_with (at_builtin; refine wpList_push rfl (.tmp 35) (.tmp 37) 56 rfl 8 Tryd.underlying56 (by kernel_rfl) rfl (hO.alloc _) ⟨wr.heap.size, 0, none⟩ 1 1 [x - (c : Int) - y + 65536] rfl rfl (cell_one (by simp)) (by omega) (by omega) (by omega) ?_; intro g' cap' wz hO1 hgr hat)
          go_roundw
          case rel => exact ⟨k + 1, g', cap', by omega, by go_num, by rw [HNV.out]; rfl, rfl, by rw [smallT_succ, ← HDV.out]; exact hO1, (hW.alloc hW.size _).grown hgr (by simp; exact Nat.le_succ_of_le hW.size) (fun q hq => by injection hq with hq; subst hq; exact hO.lt.1)⟩
          case measure => simp [intOf]; omega
        · skip
          have hdv : x - (c : Int) - y = (((a - b) / 65536 ^ k % 65536 : Nat) : Int) := by have := HDIG.out; rw [HX.out, HY.out] at this; rw [if_neg (by omega)] at this; omega
          have hnv : borrow a b (k + 1) = 0 := by have := HNX.out; rw [HX.out, HY.out] at this; rw [if_neg (by omega)] at this; exact this
          have HDV := Lib.hid hdv; have HNV := Lib.hid hnv
          clear hdv hnv
          go_wp2_with (at_builtin; refine wpList_push rfl (.tmp 35) (.tmp 37) 56 rfl 8 Tryd.underlying56 (by kernel_rfl) rfl (hO.alloc _) ⟨wr.heap.size, 0, none⟩ 1 1 [x - (c : Int) - y] rfl rfl (cell_one (by simp)) (by omega) (by omega) (by omega) ?_; intro g' cap' wz hO1 hgr hat)
          go_roundw
          case rel => exact ⟨k + 1, g', cap', by omega, by go_num, by rw [HNV.out]; rfl, rfl, by rw [smallT_succ, ← HDV.out]; exact hO1, (hW.alloc hW.size _).grown hgr (by simp; exact Nat.le_succ_of_le hW.size) (fun q hq => by injection hq with hq; subst hq; exact hO.lt.1)⟩
          case measure => simp [intOf]; omega
      · have i2 : ¬ (k : Int) < lb := by omega
        have zy : y = 0 := by rw [← HY.out]; exact EB.out (by omega)
        have ZY := Lib.hid zy
        clear zy
        by_cases hn : x - (c : Int) < 0
        · skip
          have hdv : x - (c : Int) + 65536 = (((a - b) / 65536 ^ k % 65536 : Nat) : Int) := by have := HDIG.out; rw [HX.out, HY.out, ZY.out] at this; rw [if_pos (by omega)] at this; omega
          have hnv : borrow a b (k + 1) = 1 := by have := HNX.out; rw [HX.out, HY.out, ZY.out] at this; rw [if_pos (by omega)] at this; exact this
          have HDV := Lib.hid hdv; have HNV := Lib.hid hnv
          clear hdv hnv
          go_wp2_with (at_builtin; refine wpList_push rfl (.tmp 35) (.tmp 37) 56 rfl 8 Tryd.underlying56 (by kernel_rfl) rfl (hO.alloc _) ⟨wr.heap.size, 0, none⟩ 1 1 [x - (c : Int) + 65536] rfl rfl (cell_one (by simp)) (by omega) (by omega) (by omega) ?_; intro g' cap' wz hO1 hgr hat)
          go_roundw
          case rel => exact ⟨k + 1, g', cap', by omega, by go_num, by rw [HNV.out]; rfl, rfl, by rw [smallT_succ, ← HDV.out]; exact hO1, (hW.alloc hW.size _).grown hgr (by simp; exact Nat.le_succ_of_le hW.size) (fun q hq => by injection hq with hq; subst hq; exact hO.lt.1)⟩
          case measure => simp [intOf]; omega
        · skip
          have hdv : x - (c : Int) = (((a - b) / 65536 ^ k % 65536 : Nat) : Int) := by have := HDIG.out; rw [HX.out, HY.out, ZY.out] at this; rw [if_neg (by omega)] at this; omega
          have hnv : borrow a b (k + 1) = 0 := by have := HNX.out; rw [HX.out, HY.out, ZY.out] at this; rw [if_neg (by omega)] at this; exact this
          have HDV := Lib.hid hdv; have HNV := Lib.hid hnv
          clear hdv hnv
          go_wp2_with (at_builtin; refine wpList_push rfl (.tmp 35) (.tmp 37) 56 rfl 8 Tryd.underlying56 (by kernel_rfl) rfl (hO.alloc _) ⟨wr.heap.size, 0, none⟩ 1 1 [x - (c : Int)] rfl rfl (cell_one (by simp)) (by omega) (by omega) (by omega) ?_; intro g' cap' wz hO1 hgr hat)
          go_roundw
          case rel => exact ⟨k + 1, g', cap', by omega, by go_num, by rw [HNV.out]; rfl, rfl, by rw [smallT_succ, ← HDV.out]; exact hO1, (hW.alloc hW.size _).grown hgr (by simp; exact Nat.le_succ_of_le hW.size) (fun q hq => by injection hq with hq; subst hq; exact hO.lt.1)⟩
          case measure => simp [intOf]; omega
    · obtain rfl : k = la := by omega
      have hsum : a - b < 65536 ^ k := by
        have e1 : a < 65536 ^ k := by have := lt_pow_len a; rwa [HLA.out] at this
        omega
      have hts := trim_smallT (a - b) k hsum
      have HTS := Lib.hid hts
      have hl := hO.len
      have hDr := Dr.of_own hO
      have hdd := smallT_digs (a - b) k
      generalize smallT (a - b) k = L at hl hDr hdd HTS
      clear hts hsum hO
      have HL := Lib.hid hl
      clear hl
      go_wp2_with fail
      refine (HL.out ▸ trim_calls g1 cap1 L wr hDr hdd).mono ?_
      rintro e w' ⟨rfl, rfl, hR⟩
      rw [HTS.out] at hR ⊢
      go_wp2_with fail
      go_ret
      exact ⟨g1, cap1, rfl, hR, hW⟩
end Go.Proofs.YtfoljmpphbhobaaDoor
