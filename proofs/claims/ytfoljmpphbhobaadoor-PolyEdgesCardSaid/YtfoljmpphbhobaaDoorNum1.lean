/- The walks of the reference's numbers: trim, Small. -/
import Derived.Test.YtfoljmpphbhobaaDoorDig
import Derived.Test.YtfoljmpphbhobaaDoorBase5
import Derived.Test.YtfoljmpphbhobaaDoorProg
import Derived.LoopTactic
import Derived.Handy
import Derived.Outline
import Derived.Lib.Hide
namespace Go.Proofs.YtfoljmpphbhobaaDoor
open Go.RowKit Go.Spk
set_option linter.unusedVariables false
/-- Block g of w holds the integers xs from its begin on; a slice of them has room for cap. -/
structure Dr (w : World) (g cap : Nat) (xs : List Int) : Prop where
  lt : g < w.heap.size
  room : xs.length ≤ cap
  max : cap ≤ maxLen
  cell : ∀ i, i < xs.length → w.cell? ⟨g, i, none⟩ = some (.int .i64 (ix xs i))
theorem Dr.below {w w' : World} {g cap B : Nat} {xs : List Int} (h : Dr w g cap xs) (hb : Below B w w') (hg : g < B) : Dr w' g cap xs :=
  ⟨Nat.lt_of_lt_of_le h.lt hb.size, h.room, h.max, fun i hi => (hb.cell hg).trans (h.cell i hi)⟩
theorem Dr.on {w w' : World} {g cap : Nat} {xs : List Int} (h : Dr w g cap xs) (hb : Below w.heap.size w w') : Dr w' g cap xs := h.below hb h.lt
theorem Dr.take {w : World} {g cap : Nat} {xs : List Int} (h : Dr w g cap xs) (n : Nat) : Dr w g cap (xs.take n) :=
  ⟨h.lt, by have := h.room; simp; omega, h.max, fun i hi => by
    rw [List.length_take] at hi
    rw [h.cell i (by omega)]
    congr 2
    unfold ix; simp [List.getD, show i < n by omega]⟩
theorem Dr.of_own {w : World} {B : Nat} {e : TypeId} {g n cap : Nat} {xs : List Int} (h : Own w B e .i64 g n cap xs) : Dr w g cap xs :=
  ⟨h.lt.2, by rw [h.len]; exact h.room.1, h.room.2, fun i hi => h.cell i (by rw [← h.len]; exact hi)⟩
/-- What a function of numbers hands back: the digits of n. -/
def Gives (w : World) (n : Nat) (e : Ending) (w' : World) : Prop :=
  ∃ g cap, e = .returned (.slice (some ⟨g, 0, none⟩) (dg n).length cap) ∧ Dr w' g cap (dg n) ∧ Below w.heap.size w w'
set_option maxRecDepth 100000 in
set_option maxHeartbeats 1000000 in
theorem trim_calls (g cap : Nat) (xs : List Int) (w : World) (hD : Dr w g cap xs) (hd : Digs xs) :
    Calls Tryd.prog 83 #[.slice (some ⟨g, 0, none⟩) xs.length cap] w
      fun e w' => e = .returned (.slice (some ⟨g, 0, none⟩) (dg (nv xs).toNat).length cap) ∧ w = w' ∧ Dr w g cap (dg (nv xs).toNat) := by
  have hroom := hD.room
  have hmax := hD.max
  unfold maxLen at hmax
  go_enter Tryd.func83, Tryd.ntmps83
  go_wp2_with fail
  go_loopw [3] (fun i wr => ∃ n : Nat, n ≤ xs.length ∧ i = .int .i64 n ∧ (∀ j, n ≤ j → ix xs j = 0) ∧ wr = w) (fun i _ => (intOf i).toNat)
  case atStart => exact ⟨xs.length, Nat.le_refl _, rfl, fun j hj => ix_end xs j hj, rfl⟩
  case round =>
    obtain ⟨n, hn, rfl, hz, rfl⟩ := hrel
    have HZ := Lib.hid hz
    clear hz
    by_cases h0 : n = 0
    · subst h0
      rw [show ((0 : Nat) : Int) = 0 from rfl]
      have ht := dg_of_take xs 0 hd (Nat.zero_le _) HZ.out (.inl rfl)
      have HT := Lib.hid ht
      clear ht
      go_wp2_with fail
      go_ret
      exact ⟨by rw [← HT.out]; rfl, rfl, by rw [← HT.out]; exact hD.take 0⟩
    · obtain ⟨m, rfl⟩ : ∃ m, n = m + 1 := ⟨n - 1, by omega⟩
      have c0 := hD.cell m (by omega)
      have i0 : (0 : Int) < ((m + 1 : Nat) : Int) := by omega
      have i1 : ((m + 1 : Nat) : Int) - 1 = m := by omega
      have i2 : (m : Int) < xs.length := by omega
      by_cases hc : ix xs m = 0
      · rw [hc] at c0
        have HC := Lib.hid hc
        clear hc
        go_wp2_with fail
        go_roundw
        case rel =>
          refine ⟨m, by omega, by go_num, fun j hj => ?_, trivial⟩
          by_cases e : j = m
          · rw [e]; exact HC.out
          · exact HZ.out j (by omega)
        case measure => simp [intOf]
      · have ht := dg_of_take xs (m + 1) hd hn HZ.out (.inr hc)
        have HT := Lib.hid ht
        have hl : (dg (nv xs).toNat).length = m + 1 := by rw [← ht, List.length_take]; omega
        have HL := Lib.hid hl
        clear ht hl
        have hne : (ix xs m == 0) = false := by simpa using hc
        go_wp2_with fail
        go_ret
        exact ⟨by rw [HL.out]; rfl, rfl, by rw [← HT.out]; exact hD.take (m + 1)⟩
/-- The digits laid so far: numbers n0, n0 / 65536, .. -/
def smallT (n : Nat) (k : Nat) : List Int := (List.range k).map fun j => ((n / 65536 ^ j % 65536 : Nat) : Int)
theorem smallT_length (n k : Nat) : (smallT n k).length = k := by simp [smallT]
theorem smallT_succ (n k : Nat) : smallT n (k + 1) = smallT n k ++ [((n / 65536 ^ k % 65536 : Nat) : Int)] := by simp [smallT, List.range_succ]
theorem smallT_dg (n k : Nat) (h : n / 65536 ^ k = 0) (h1 : k = 0 ∨ n / 65536 ^ (k - 1) ≠ 0) : smallT n k = dg n := by
  have hlt : n < 65536 ^ k := by
    rcases Nat.lt_or_ge n (65536 ^ k) with h2 | h2
    · exact h2
    · have := Nat.div_pos h2 (Nat.pow_pos (by decide))
      omega
  have hl : (dg n).length = k := by
    refine Nat.le_antisymm (dg_len hlt) (Nat.le_of_not_lt fun hlt2 => ?_)
    rcases h1 with h1 | h1
    · omega
    · apply h1
      have e1 : ix (dg n) (k - 1) = 0 := ix_end _ _ (by omega)
      rw [ix_dg] at e1
      have : n / 65536 ^ (k - 1) < 65536 := by
        rw [Nat.div_lt_iff_lt_mul (Nat.pow_pos (by decide)), Nat.mul_comm, ← Nat.pow_succ]
        rw [show (k - 1).succ = k by omega]; exact hlt
      rw [Nat.mod_eq_of_lt this] at e1
      omega
  refine ix_ext (by rw [smallT_length, hl]) fun i hi => ?_
  rw [smallT_length] at hi
  rw [ix_dg]
  simp [ix, smallT, List.getD, hi]
set_option maxRecDepth 100000 in
set_option maxHeartbeats 1000000 in
theorem small_calls (n : Nat) (hn : n < 9223372036854775808) (w : World) : Calls Tryd.prog 48 #[.int .i64 n] w (Gives w n) := by
  go_enter Tryd.func48, Tryd.ntmps48
  go_wp2_with fail
  go_loopw [0, 3] (fun i v wr => ∃ k g cap : Nat, k ≤ 4 ∧ i = .int .i64 ((n / 65536 ^ k : Nat) : Int) ∧ v = .slice (some ⟨g, 0, none⟩) k cap ∧ (k = 0 ∨ n / 65536 ^ (k - 1) ≠ 0) ∧ Own wr w.heap.size 3 .i64 g k cap (smallT n k) ∧ Below w.heap.size w wr) (fun i _ _ => (intOf i).toNat)
  case atStart => exact ⟨0, w.heap.size, 0, by omega, by simp, rfl, .inl rfl, Own.made rfl (Nat.le_refl _) (by decide) rfl rfl, (Below.refl _ w).alloc (Nat.le_refl _) _⟩
  case round =>
    obtain ⟨k, g, cap, hk, rfl, rfl, hp, hO, hB⟩ := hrel
    obtain ⟨m, hm⟩ : ∃ m, m = n / 65536 ^ k := ⟨_, rfl⟩
    have hm1 : n / 65536 ^ (k + 1) = m / 65536 := by rw [hm, Nat.div_div_eq_div_mul, Nat.pow_succ]
    have hmb : m < 9223372036854775808 := by rw [hm]; exact Nat.lt_of_le_of_lt (Nat.div_le_self _ _) hn
    rw [← hm]
    have HM := Lib.hid hm; have HM1 := Lib.hid hm1; have HP := Lib.hid hp
    clear hm hm1 hp
    by_cases h0 : m = 0
    · subst h0
      rw [show ((0 : Nat) : Int) = 0 from rfl]
      have hs := smallT_dg n k HM.out.symm HP.out
      have hl : (dg n).length = k := by rw [← hs, smallT_length]
      have HS := Lib.hid hs; have HL := Lib.hid hl
      clear hs hl
      go_wp2_with fail
      go_ret
      exact ⟨g, cap, by rw [HL.out]; rfl, by rw [← HS.out]; exact Dr.of_own hO, hB⟩
    · have hk4 : k < 4 := by
        refine Nat.lt_of_not_le fun h4 => h0 ?_
        obtain rfl : k = 4 := by omega
        rw [HM.out]
        exact Nat.div_eq_of_lt (by omega)
      have i0 : (0 : Int) < m := by omega
      have i00 : 0 < m := by omega
      go_wp2_with (at_builtin; refine wpList_push rfl (.tmp 7) (.tmp 10) 56 rfl 8 Tryd.underlying56 (by kernel_rfl) rfl (hO.alloc _) ⟨wr.heap.size, 0, none⟩ 1 1 [(m : Int) % 65536] rfl rfl (cell_one (by simp)) (by omega) (by omega) (by omega) ?_; intro g' cap' wz hO1 hgr hat)
      go_roundw
      case rel => exact ⟨k + 1, g', cap', by omega, by rw [HM1.out]; go_num, rfl, .inr (by rw [show k + 1 - 1 = k from rfl, ← HM.out]; exact h0), by rw [smallT_succ, ← HM.out, Int.natCast_emod]; exact hO1, (hB.alloc hB.size _).grown hgr (by simp; exact Nat.le_succ_of_le hB.size) (fun q hq => by injection hq with hq; subst hq; exact hO.lt.1)⟩
      case measure => simp [intOf]; omega
end Go.Proofs.YtfoljmpphbhobaaDoor
