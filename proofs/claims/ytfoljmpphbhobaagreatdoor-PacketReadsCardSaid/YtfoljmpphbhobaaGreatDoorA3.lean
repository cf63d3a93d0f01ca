/- Numbers in digits of 16 bits, as plain lists of integers: no program in sight. · The walks of the reference's numbers: trim, Small. · The walks of the reference's numbers: Bytes, Of. · The walks of the reference's numbers: Cmp. · The walk of the reference's Add. · The walk of the reference's Sub. · The walks of the reference's Power and Half, at 130. · What the reference's Mul reckons: the plain laws of its loops. · The walk of the reference's Mul. · The walk of the reference's Low, at 130. · What the reference's Sum reckons: plain laws. · The walk of the reference's Sum. -/
import Derived.Test.YtfoljmpphbhobaaGreatDoorA1
import Derived.Test.YtfoljmpphbhobaaGreatDoorProg
import Derived.LoopTactic
import Derived.Handy
import Derived.Outline
import Derived.Lib.Hide
import Derived.Deep.LoopGhost
namespace Go.Spk
/-- The number whose j-th digit (to the base 65536) is f j: of n digits. -/
def pv (f : Nat → Int) : Nat → Int
  | 0 => 0
  | n + 1 => pv f n + f n * 65536 ^ n
theorem pv_congr {f g : Nat → Int} {n : Nat} (h : ∀ i, i < n → f i = g i) : pv f n = pv g n := by
  induction n with
  | zero => rfl
  | succ n ih => rw [pv, pv, ih (fun i hi => h i (by omega)), h n (by omega)]
theorem pv_zero {f : Nat → Int} {m n : Nat} (hmn : m ≤ n) (h : ∀ i, m ≤ i → i < n → f i = 0) : pv f n = pv f m := by
  induction n with
  | zero => obtain rfl : m = 0 := by omega
            rfl
  | succ n ih =>
    by_cases e : m = n + 1
    · rw [e]
    · rw [pv, h n (by omega) (by omega), ih (by omega) (fun i h1 h2 => h i h1 (by omega))]; simp
/-- The number of a list of digits. -/
def nv (xs : List Int) : Int := pv (ix xs) xs.length
theorem ix_end (xs : List Int) (i : Nat) (h : xs.length ≤ i) : ix xs i = 0 := by
  unfold ix; simp [List.getD, List.getElem?_eq_none h]
theorem nv_pv (xs : List Int) (n : Nat) (h : xs.length ≤ n) : pv (ix xs) n = nv xs := pv_zero h fun i h1 _ => ix_end xs i h1
def Digs (xs : List Int) : Prop := ∀ i, 0 ≤ ix xs i ∧ ix xs i < 65536
theorem pv_bd {f : Nat → Int} (h : ∀ i, 0 ≤ f i ∧ f i < 65536) (n : Nat) : 0 ≤ pv f n ∧ pv f n < 65536 ^ n := by
  induction n with
  | zero => simp [pv]
  | succ n ih =>
    have hp : (0 : Int) < 65536 ^ n := by
      have : (0 : Int) < 65536 := by decide
      exact Int.pow_pos this
    obtain ⟨h0, h1⟩ := h n
    rw [pv, Int.pow_succ]
    generalize (65536 : Int) ^ n = B at *
    have e1 : 0 ≤ f n * B := Int.mul_nonneg h0 (by omega)
    have e2 : f n * B ≤ 65535 * B := Int.mul_le_mul_of_nonneg_right (by omega) (by omega)
    constructor
    · omega
    · rw [Int.mul_comm B 65536]
      omega
/-- The digits of a number, none of them an idle 0 above. -/
def dg (n : Nat) : List Int := if h : n = 0 then [] else ((n % 65536 : Nat) : Int) :: dg (n / 65536)
termination_by n
decreasing_by omega
theorem dg_zero : dg 0 = [] := by unfold dg; simp
theorem dg_pos {n : Nat} (h : n ≠ 0) : dg n = ((n % 65536 : Nat) : Int) :: dg (n / 65536) := by rw [dg]; simp [h]
theorem ix_cons_zero (x : Int) (xs : List Int) : ix (x :: xs) 0 = x := rfl
theorem ix_cons_succ (x : Int) (xs : List Int) (i : Nat) : ix (x :: xs) (i + 1) = ix xs i := rfl
theorem ix_dg (n j : Nat) : ix (dg n) j = ((n / 65536 ^ j % 65536 : Nat) : Int) := by
  induction j generalizing n with
  | zero =>
    by_cases h : n = 0
    · subst h; rw [dg_zero]; rfl
    · rw [dg_pos h, ix_cons_zero]; simp
  | succ j ih =>
    by_cases h : n = 0
    · subst h; rw [dg_zero]; simp [ix]
    · rw [dg_pos h, ix_cons_succ, ih, Nat.div_div_eq_div_mul, Nat.pow_succ, Nat.mul_comm 65536]
theorem dg_digs (n : Nat) : Digs (dg n) := fun i => by rw [ix_dg]; omega
theorem dg_len {n m : Nat} (h : n < 65536 ^ m) : (dg n).length ≤ m := by
  induction m generalizing n with
  | zero => obtain rfl : n = 0 := by simpa using h
            rw [dg_zero]; simp
  | succ m ih =>
    by_cases e : n = 0
    · subst e; rw [dg_zero]; simp
    · rw [dg_pos e, List.length_cons]
      have := ih (n := n / 65536) (by rw [Nat.pow_succ] at h; omega)
      omega
theorem dg_last {n : Nat} (h : dg n ≠ []) : ix (dg n) ((dg n).length - 1) ≠ 0 := by
  induction n using Nat.strongRecOn with
  | ind n ih =>
    by_cases e : n = 0
    · subst e; exact absurd dg_zero h
    · rw [dg_pos e]
      by_cases e2 : dg (n / 65536) = []
      · rw [e2]
        have hz : n / 65536 = 0 := by
          refine Classical.byContradiction fun hne => ?_
          rw [dg_pos hne] at e2; cases e2
        simp only [List.length_singleton, Nat.sub_self]
        rw [ix_cons_zero]
        omega
      · have h1 := ih (n / 65536) (by omega) e2
        have hl : 0 < (dg (n / 65536)).length := List.length_pos_iff.2 e2
        rw [List.length_cons, show (dg (n / 65536)).length + 1 - 1 = ((dg (n / 65536)).length - 1) + 1 by omega, ix_cons_succ]
        exact h1
theorem pv_shift (f : Nat → Int) (n : Nat) : pv f (n + 1) = f 0 + 65536 * pv (fun i => f (i + 1)) n := by
  induction n with
  | zero => simp [pv]
  | succ n ih =>
    rw [pv, ih, pv, Int.mul_add, Int.pow_succ]
    rw [show f (n + 1) * (65536 ^ n * 65536) = 65536 * (f (n + 1) * 65536 ^ n) by rw [← Int.mul_assoc, Int.mul_comm]]
    omega
theorem nv_cons (x : Int) (xs : List Int) : nv (x :: xs) = x + 65536 * nv xs := by
  unfold nv
  rw [List.length_cons, pv_shift]
  rfl
theorem nv_dg (n : Nat) : nv (dg n) = n := by
  induction n using Nat.strongRecOn with
  | ind n ih =>
    by_cases e : n = 0
    · subst e; rw [dg_zero]; rfl
    · rw [dg_pos e, nv_cons, ih _ (by omega)]
      omega
/-- A list of digits, cut behind its last digit that is not 0, is the number's list. -/
theorem dg_of_take : ∀ (xs : List Int) (n : Nat), Digs xs → n ≤ xs.length → (∀ i, n ≤ i → ix xs i = 0) → (n = 0 ∨ ix xs (n - 1) ≠ 0) → xs.take n = dg (nv xs).toNat
  | [], n, _, hn, _, _ => by
    obtain rfl : n = 0 := by simpa using hn
    show [] = _
    rw [show (nv []).toNat = 0 from rfl, dg_zero]
  | x :: xs, 0, hd, hn, hz, hl => by
    have hv : nv (x :: xs) = 0 := by
      unfold nv
      exact pv_zero (m := 0) (Nat.zero_le _) fun i _ _ => hz i (Nat.zero_le _)
    rw [hv]
    show [] = dg 0
    rw [dg_zero]
  | x :: xs, n + 1, hd, hn, hz, hl => by
    have hd' : Digs xs := fun i => by have := hd (i + 1); rwa [ix_cons_succ] at this
    have hx := hd 0
    rw [ix_cons_zero] at hx
    have ih := dg_of_take xs n hd' (by simpa using hn) (fun i hi => by have := hz (i + 1) (by omega); rwa [ix_cons_succ] at this)
      (by
        cases n with
        | zero => exact .inl rfl
        | succ n => refine .inr ?_
                    rcases hl with h | h
                    · omega
                    · exact h)
    have hnv : 0 ≤ nv xs := (pv_bd hd' _).1
    rw [List.take_succ_cons, ih, nv_cons]
    have hne : (x + 65536 * nv xs).toNat ≠ 0 := by
      intro h0
      have hx0 : x = 0 := by omega
      have hv0 : nv xs = 0 := by omega
      rcases hl with h | h
      · omega
      · cases n with
        | zero => exact h hx0
        | succ n =>
          rw [hv0] at ih
          rw [show ((0 : Int)).toNat = 0 from rfl, dg_zero] at ih
          have := congrArg List.length ih
          rw [List.length_take, List.length_nil] at this
          rw [List.length_cons] at hn
          omega
    rw [dg_pos hne]
    congr 1
    · omega
    · congr 1; omega
end Go.Spk
namespace Go.Proofs.YtfoljmpphbhobaaGreatDoor
open Go.RowKit Go.Spk
set_option linter.unusedVariables false
/-- Block g of w holds the integers xs from its begin on; a slice of them has room for cap. -/
structure Dr (w : World) (g cap : Nat) (xs : List Int) : Prop where
  lt : g < w.heap.size
  room : xs.length ≤ cap
  max : cap ≤ maxLen
  cell : ∀ i, i < xs.length → w.cell? ⟨g, i, none⟩ = some (.int .i64 (ix xs i))
theorem Dr.below {w w' : World} {g cap B : Nat} {xs : List Int} (h : Dr w g cap xs) (hb : Below B w w') (hg : g < B) : Dr w' g cap xs :=
  ⟨Nat.lt_of_lt_of_le h.lt hb.size, h.room, h.max, fun i hi => (hb.cell hg).trans (h.cell i hi)⟩
theorem Dr.on {w w' : World} {g cap : Nat} {xs : List Int} (h : Dr w g cap xs) (hb : Below w.heap.size w w') : Dr w' g cap xs := h.below hb h.lt
theorem Dr.take {w : World} {g cap : Nat} {xs : List Int} (h : Dr w g cap xs) (n : Nat) : Dr w g cap (xs.take n) :=
  ⟨h.lt, by have := h.room; simp; omega, h.max, fun i hi => by
    rw [List.length_take] at hi
    rw [h.cell i (by omega)]
    congr 2
    unfold ix; simp [List.getD, show i < n by omega]⟩
theorem Dr.of_own {w : World} {B : Nat} {e : TypeId} {g n cap : Nat} {xs : List Int} (h : Own w B e .i64 g n cap xs) : Dr w g cap xs :=
  ⟨h.lt.2, by rw [h.len]; exact h.room.1, h.room.2, fun i hi => h.cell i (by rw [← h.len]; exact hi)⟩
/-- What a function of numbers hands back: the digits of n. -/
def Gives (w : World) (n : Nat) (e : Ending) (w' : World) : Prop :=
  ∃ g cap, e = .returned (.slice (some ⟨g, 0, none⟩) (dg n).length cap) ∧ Dr w' g cap (dg n) ∧ Below w.heap.size w w'
set_option maxRecDepth 100000 in
set_option maxHeartbeats 1000000 in
theorem trim_calls (g cap : Nat) (xs : List Int) (w : World) (hD : Dr w g cap xs) (hd : Digs xs) :
    Calls Tryz.prog 104 #[.slice (some ⟨g, 0, none⟩) xs.length cap] w
      fun e w' => e = .returned (.slice (some ⟨g, 0, none⟩) (dg (nv xs).toNat).length cap) ∧ w = w' ∧ Dr w g cap (dg (nv xs).toNat) := by
  have hroom := hD.room
  have hmax := hD.max
  unfold maxLen at hmax
  go_enter Tryz.func104, Tryz.ntmps104
  go_wp2_with fail
  go_loopw [3] (fun i wr => ∃ n : Nat, n ≤ xs.length ∧ i = .int .i64 n ∧ (∀ j, n ≤ j → ix xs j = 0) ∧ wr = w) (fun i _ => (intOf i).toNat)
  case atStart => exact ⟨xs.length, Nat.le_refl _, rfl, fun j hj => ix_end xs j hj, rfl⟩
  case round =>
    obtain ⟨n, hn, rfl, hz, rfl⟩ := hrel
    have HZ := Lib.hid hz
    clear hz
    by_cases h0 : n = 0
    · subst h0
      rw [show ((0 : Nat) : Int) = 0 from rfl]
      have ht := dg_of_take xs 0 hd (Nat.zero_le _) HZ.out (.inl rfl)
      have HT := Lib.hid ht
      clear ht
      go_wp2_with fail
      go_ret
      exact ⟨by rw [← HT.out]; rfl, rfl, by rw [← HT.out]; exact hD.take 0⟩
    · obtain ⟨m, rfl⟩ : ∃ m, n = m + 1 := ⟨n - 1, by omega⟩
      have c0 := hD.cell m (by omega)
      have i0 : (0 : Int) < ((m + 1 : Nat) : Int) := by omega
      have i1 : ((m + 1 : Nat) : Int) - 1 = m := by omega
      have i2 : (m : Int) < xs.length := by omega
      by_cases hc : ix xs m = 0
      · rw [hc] at c0
        have HC := Lib.hid hc
        clear hc
        go_wp2_with fail
        go_roundw
        case rel =>
          refine ⟨m, by omega, by go_num, fun j hj => ?_, trivial⟩
          by_cases e : j = m
          · rw [e]; exact HC.out
          · exact HZ.out j (by omega)
        case measure => simp [intOf]
      · have ht := dg_of_take xs (m + 1) hd hn HZ.out (.inr hc)
        have HT := Lib.hid ht
        have hl : (dg (nv xs).toNat).length = m + 1 := by rw [← ht, List.length_take]; omega
        have HL := Lib.hid hl
        clear ht hl
        have hne : (ix xs m == 0) = false := by simpa using hc
        go_wp2_with fail
        go_ret
        exact ⟨by rw [HL.out]; rfl, rfl, by rw [← HT.out]; exact hD.take (m + 1)⟩
/-- The digits laid so far: numbers n0, n0 / 65536, .. -/
def smallT (n : Nat) (k : Nat) : List Int := (List.range k).map fun j => ((n / 65536 ^ j % 65536 : Nat) : Int)
theorem smallT_length (n k : Nat) : (smallT n k).length = k := by simp [smallT]
theorem smallT_succ (n k : Nat) : smallT n (k + 1) = smallT n k ++ [((n / 65536 ^ k % 65536 : Nat) : Int)] := by simp [smallT, List.range_succ]
theorem smallT_dg (n k : Nat) (h : n / 65536 ^ k = 0) (h1 : k = 0 ∨ n / 65536 ^ (k - 1) ≠ 0) : smallT n k = dg n := by
  have hlt : n < 65536 ^ k := by
    rcases Nat.lt_or_ge n (65536 ^ k) with h2 | h2
    · exact h2
    · have := Nat.div_pos h2 (Nat.pow_pos (by decide))
      omega
  have hl : (dg n).length = k := by
    refine Nat.le_antisymm (dg_len hlt) (Nat.le_of_not_lt fun hlt2 => ?_)
    rcases h1 with h1 | h1
    · omega
    · apply h1
      have e1 : ix (dg n) (k - 1) = 0 := ix_end _ _ (by omega)
      rw [ix_dg] at e1
      have : n / 65536 ^ (k - 1) < 65536 := by
        rw [Nat.div_lt_iff_lt_mul (Nat.pow_pos (by decide)), Nat.mul_comm, ← Nat.pow_succ]
        rw [show (k - 1).succ = k by omega]; exact hlt
      rw [Nat.mod_eq_of_lt this] at e1
      omega
  refine ix_ext (by rw [smallT_length, hl]) fun i hi => ?_
  rw [smallT_length] at hi
  rw [ix_dg]
  simp [ix, smallT, List.getD, hi]
set_option maxRecDepth 100000 in
set_option maxHeartbeats 1000000 in
theorem small_calls (n : Nat) (hn : n < 9223372036854775808) (w : World) : Calls Tryz.prog 74 #[.int .i64 n] w (Gives w n) := by
  go_enter Tryz.func74, Tryz.ntmps74
  go_wp2_with fail
  go_loopw [0, 3] (fun i v wr => ∃ k g cap : Nat, k ≤ 4 ∧ i = .int .i64 ((n / 65536 ^ k : Nat) : Int) ∧ v = .slice (some ⟨g, 0, none⟩) k cap ∧ (k = 0 ∨ n / 65536 ^ (k - 1) ≠ 0) ∧ Own wr w.heap.size 3 .i64 g k cap (smallT n k) ∧ Below w.heap.size w wr) (fun i _ _ => (intOf i).toNat)
  case atStart => exact ⟨0, w.heap.size, 0, by omega, by simp, rfl, .inl rfl, Own.made rfl (Nat.le_refl _) (by decide) rfl rfl, (Below.refl _ w).alloc (Nat.le_refl _) _⟩
  case round =>
    obtain ⟨k, g, cap, hk, rfl, rfl, hp, hO, hB⟩ := hrel
    obtain ⟨m, hm⟩ : ∃ m, m = n / 65536 ^ k := ⟨_, rfl⟩
    have hm1 : n / 65536 ^ (k + 1) = m / 65536 := by rw [hm, Nat.div_div_eq_div_mul, Nat.pow_succ]
    have hmb : m < 9223372036854775808 := by rw [hm]; exact Nat.lt_of_le_of_lt (Nat.div_le_self _ _) hn
    rw [← hm]
    have HM := Lib.hid hm; have HM1 := Lib.hid hm1; have HP := Lib.hid hp
    clear hm hm1 hp
    by_cases h0 : m = 0
    · subst h0
      rw [show ((0 : Nat) : Int) = 0 from rfl]
      have hs := smallT_dg n k HM.out.symm HP.out
      have hl : (dg n).length = k := by rw [← hs, smallT_length]
      have HS := Lib.hid hs; have HL := Lib.hid hl
      clear hs hl
      go_wp2_with fail
      go_ret
      exact ⟨g, cap, by rw [HL.out]; rfl, by rw [← HS.out]; exact Dr.of_own hO, hB⟩
    · have hk4 : k < 4 := by
        refine Nat.lt_of_not_le fun h4 => h0 ?_
        obtain rfl : k = 4 := by omega
        rw [HM.out]
        exact Nat.div_eq_of_lt (by omega)
      have i0 : (0 : Int) < m := by omega
      have i00 : 0 < m := by omega
      go_wp2_with (at_builtin; refine wpList_push rfl (.tmp 7) (.tmp 10) 52 rfl 8 Tryz.underlying52 (by kernel_rfl) rfl (hO.alloc _) ⟨wr.heap.size, 0, none⟩ 1 1 [(m : Int) % 65536] rfl rfl (cell_one (by simp)) (by omega) (by omega) (by omega) ?_; intro g' cap' wz hO1 hgr hat)
      go_roundw
      case rel => exact ⟨k + 1, g', cap', by omega, by rw [HM1.out]; go_num, rfl, .inr (by rw [show k + 1 - 1 = k from rfl, ← HM.out]; exact h0), by rw [smallT_succ, ← HM.out, Int.natCast_emod]; exact hO1, (hB.alloc hB.size _).grown hgr (by simp; exact Nat.le_succ_of_le hB.size) (fun q hq => by injection hq with hq; subst hq; exact hO.lt.1)⟩
      case measure => simp [intOf]; omega
end Go.Proofs.YtfoljmpphbhobaaGreatDoor
namespace Go.Proofs.YtfoljmpphbhobaaGreatDoor
open Go.RowKit Go.Spk
set_option linter.unusedVariables false
/-- The lowest m bytes of n. -/
def bytesN (n m : Nat) : List Int := (List.range m).map fun j => ((n / 256 ^ j % 256 : Nat) : Int)
theorem bytesN_length (n m : Nat) : (bytesN n m).length = m := by simp [bytesN]
theorem bytesN_succ (n m : Nat) : bytesN n (m + 1) = bytesN n m ++ [((n / 256 ^ m % 256 : Nat) : Int)] := by simp [bytesN, List.range_succ]
theorem bytesN_mem (n m : Nat) : ∀ b ∈ bytesN n m, 0 ≤ b ∧ b ≤ 255 := by
  intro b hb
  obtain ⟨j, _, rfl⟩ := List.mem_map.1 hb
  omega
theorem byte_even (n k : Nat) : ix (dg n) k % 256 = ((n / 256 ^ (2 * k) % 256 : Nat) : Int) := by
  rw [ix_dg, Nat.pow_mul, show (256 : Nat) ^ 2 = 65536 from rfl]
  omega
theorem byte_odd (n k : Nat) : ix (dg n) k / 256 % 256 = ((n / 256 ^ (2 * k + 1) % 256 : Nat) : Int) := by
  rw [ix_dg, Nat.pow_succ, Nat.pow_mul, show (256 : Nat) ^ 2 = 65536 from rfl, ← Nat.div_div_eq_div_mul]
  omega
set_option maxRecDepth 100000 in
set_option maxHeartbeats 1000000 in
theorem bytes_calls (n m g cap : Nat) (hm : m ≤ 1000000) (w : World) (hD : Dr w g cap (dg n)) :
    Calls Tryz.prog 73 #[.slice (some ⟨g, 0, none⟩) (dg n).length cap, .int .i64 m] w
      fun e w' => e = .returned (.string (strOfNums (bytesN n m))) ∧ Below w.heap.size w w' := by
  have hroom := hD.room
  have hmax := hD.max
  unfold maxLen at hmax
  generalize hl : (dg n).length = len at hroom
  have HLn := Lib.hid hl
  clear hl
  go_enter Tryz.func73, Tryz.ntmps73
  go_wp2_with fail
  go_loopw [5, 6] (fun v i wr => ∃ k g cap : Nat, k ≤ m ∧ i = .int .i64 k ∧ v = .slice (some ⟨g, 0, none⟩) k cap ∧ Own wr w.heap.size 5 .u8 g k cap (bytesN n k) ∧ Below w.heap.size w wr) (fun _ i _ => m - (intOf i).toNat)
  case atStart => exact ⟨0, w.heap.size, 0, by omega, rfl, rfl, Own.made rfl (Nat.le_refl _) (by decide) rfl rfl, (Below.refl _ w).alloc (Nat.le_refl _) _⟩
  case round =>
    obtain ⟨k, g1, cap1, hk, rfl, rfl, hO, hB⟩ := hrel
    by_cases hlt : k < m
    · have i0 : (k : Int) < m := by omega
      have hDr := hD.on hB
      obtain ⟨q, rfl | rfl⟩ : ∃ q, k = 2 * q ∨ k = 2 * q + 1 := ⟨k / 2, by omega⟩
      · have e1 : (2 * (q : Int)) / 2 = q := by omega
        have e2 : ((2 * q : Nat) : Int) = 2 * (q : Int) := by omega
        have e3 : (2 * (q : Int)) % 2 = 0 := by omega
        have hd := dg_digs n q
        obtain ⟨d0, d1⟩ := hd
        have hbe := byte_even n q
        have HBE := Lib.hid hbe
        clear hbe
        rw [e2] at i0 ⊢
        have j0 : (0 : Int) ≤ 2 * (q : Int) := by omega
        clear e2
        by_cases hc : q < len
        · have c0 := hDr.cell q (by rw [HLn.out]; exact hc)
          have j1 : (q : Int) < len := by omega
          go_wp2_with (at_builtin; refine wpList_push rfl (.tmp 29) (.tmp 33) 33 rfl 1 Tryz.underlying33 (by kernel_rfl) rfl (hO.alloc _) ⟨wr.heap.size, 0, none⟩ 1 1 [ix (dg n) q % 256] rfl rfl (cell_one (by simp)) (by omega) (by omega) (by omega) ?_; intro g' cap' wz hO1 hgr hat)
          go_roundw
          case rel => exact ⟨2 * q + 1, g', cap', by omega, by go_num, rfl, by rw [bytesN_succ, ← HBE.out]; exact hO1, (hB.alloc hB.size _).grown hgr (by simp; exact Nat.le_succ_of_le hB.size) (fun q hq => by injection hq with hq; subst hq; exact hO.lt.1)⟩
          case measure => simp [intOf]; omega
        · have z0 := ix_end (dg n) q (by rw [HLn.out]; omega)
          have HZ0 := Lib.hid z0
          clear z0
          have j1 : ¬ (q : Int) < len := by omega
          go_wp2_with (at_builtin; refine wpList_push rfl (.tmp 29) (.tmp 33) 33 rfl 1 Tryz.underlying33 (by kernel_rfl) rfl (hO.alloc _) ⟨wr.heap.size, 0, none⟩ 1 1 [0] rfl rfl (cell_one (by simp)) (by omega) (by omega) (by omega) ?_; intro g' cap' wz hO1 hgr hat)
          go_roundw
          case rel => exact ⟨2 * q + 1, g', cap', by omega, by go_num, rfl, by rw [bytesN_succ, ← HBE.out, HZ0.out]; exact hO1, (hB.alloc hB.size _).grown hgr (by simp; exact Nat.le_succ_of_le hB.size) (fun q hq => by injection hq with hq; subst hq; exact hO.lt.1)⟩
          case measure => simp [intOf]; omega
      · have e1 : (2 * (q : Int) + 1) / 2 = q := by omega
        have e2 : ((2 * q + 1 : Nat) : Int) = 2 * (q : Int) + 1 := by omega
        have e3 : (2 * (q : Int) + 1) % 2 = 1 := by omega
        have hd := dg_digs n q
        obtain ⟨d0, d1⟩ := hd
        have hbe := byte_odd n q
        have HBE := Lib.hid hbe
        clear hbe
        rw [e2] at i0 ⊢
        have j0 : (0 : Int) ≤ 2 * (q : Int) + 1 := by omega
        clear e2
        by_cases hc : q < len
        · have c0 := hDr.cell q (by rw [HLn.out]; exact hc)
          have j1 : (q : Int) < len := by omega
          go_wp2_with (at_builtin; refine wpList_push rfl (.tmp 29) (.tmp 33) 33 rfl 1 Tryz.underlying33 (by kernel_rfl) rfl (hO.alloc _) ⟨wr.heap.size, 0, none⟩ 1 1 [ix (dg n) q / 256 % 256] rfl rfl (cell_one (by simp)) (by omega) (by omega) (by omega) ?_; intro g' cap' wz hO1 hgr hat)
          go_roundw
          case rel => exact ⟨2 * q + 1 + 1, g', cap', by omega, by go_num, rfl, by rw [bytesN_succ, ← HBE.out]; exact hO1, (hB.alloc hB.size _).grown hgr (by simp; exact Nat.le_succ_of_le hB.size) (fun q hq => by injection hq with hq; subst hq; exact hO.lt.1)⟩
          case measure => simp [intOf]; omega
        · have z0 := ix_end (dg n) q (by rw [HLn.out]; omega)
          have HZ0 := Lib.hid z0
          clear z0
          have j1 : ¬ (q : Int) < len := by omega
          go_wp2_with (at_builtin; refine wpList_push rfl (.tmp 29) (.tmp 33) 33 rfl 1 Tryz.underlying33 (by kernel_rfl) rfl (hO.alloc _) ⟨wr.heap.size, 0, none⟩ 1 1 [0] rfl rfl (cell_one (by simp)) (by omega) (by omega) (by omega) ?_; intro g' cap' wz hO1 hgr hat)
          go_roundw
          case rel => exact ⟨2 * q + 1 + 1, g', cap', by omega, by go_num, rfl, by rw [bytesN_succ, ← HBE.out, HZ0.out]; exact hO1, (hB.alloc hB.size _).grown hgr (by simp; exact Nat.le_succ_of_le hB.size) (fun q hq => by injection hq with hq; subst hq; exact hO.lt.1)⟩
          case measure => simp [intOf]; omega
    · obtain rfl : k = m := by omega
      have hl64 := hO.len
      have hcl : ∀ q, q < k → wr.cell? ⟨g1, 0 + q, none⟩ = some (.int .u8 ((bytesN n k).getD q 0)) := fun q hq => by rw [Nat.zero_add]; exact hO.cell q hq
      have hrun := run_convert_bytes_arg (P := Tryz.prog) wr 33 5 Tryz.underlying33 Tryz.underlying5 g1 0 k cap1 (bytesN n k) hl64 hcl 9 Tryz.underlying9
      clear hl64 hcl
      go_wp2_with fail
      go_ret
      exact ⟨rfl, hB⟩
/-- The number of bytes, the lowest first. -/
def nb : List Int → Int
  | [] => 0
  | b :: bs => b + 256 * nb bs
def ofL : List Int → List Int
  | [] => []
  | [b] => [b]
  | b :: c :: bs => (b + 256 * c) :: ofL bs
theorem nv_nil : nv [] = 0 := rfl
theorem nv_ofL (bs : List Int) : nv (ofL bs) = nb bs := by
  induction bs using ofL.induct with
  | case1 => rfl
  | case2 b => rw [ofL, nv_cons, nv_nil]; simp [nb]
  | case3 b c bs ih => rw [ofL, nv_cons, ih]; simp only [nb]; omega
theorem ofL_length (bs : List Int) : (ofL bs).length = (bs.length + 1) / 2 := by
  induction bs using ofL.induct with
  | case1 => rfl
  | case2 b => simp [ofL]
  | case3 b c bs ih => rw [ofL, List.length_cons, ih]; simp only [List.length_cons]; omega
theorem ofL_push_even (bs : List Int) (b : Int) (h : bs.length % 2 = 0) : ofL (bs ++ [b]) = ofL bs ++ [b] := by
  induction bs using ofL.induct with
  | case1 => rfl
  | case2 b => simp at h
  | case3 b c bs ih => simp only [List.cons_append, ofL]; rw [ih (by simp only [List.length_cons] at h; omega)]
theorem ofL_push_odd (bs : List Int) (b : Int) (h : bs.length % 2 = 1) : ofL (bs ++ [b]) = (ofL bs).set (bs.length / 2) (ix (ofL bs) (bs.length / 2) + 256 * b) := by
  induction bs using ofL.induct with
  | case1 => simp at h
  | case2 b => simp [ofL, ix]
  | case3 b c bs ih =>
    simp only [List.cons_append, ofL]
    rw [ih (by simp only [List.length_cons] at h; omega)]
    simp only [List.length_cons, show (bs.length + 1 + 1) / 2 = bs.length / 2 + 1 by omega, List.set_cons_succ, ix_cons_succ]
theorem ofL_digs (bs : List Int) (h : U8s bs) : Digs (ofL bs) := by
  induction bs using ofL.induct with
  | case1 => intro i; simp [ofL, ix]
  | case2 b => intro i
               have := h 0
               rw [ix_cons_zero] at this
               cases i with
               | zero => rw [ofL, ix_cons_zero]; omega
               | succ i => rw [ofL, ix_cons_succ]; simp [ix]
  | case3 b c bs ih => intro i
                       have h0 := h 0
                       have h1 := h 1
                       rw [ix_cons_zero] at h0
                       rw [show (1 : Nat) = 0 + 1 from rfl, ix_cons_succ, ix_cons_zero] at h1
                       cases i with
                       | zero => rw [ofL, ix_cons_zero]; omega
                       | succ i => rw [ofL, ix_cons_succ]; exact ih (fun j => by have := h (j + 2); rwa [show j + 2 = (j + 1) + 1 from rfl, ix_cons_succ, ix_cons_succ] at this) i
theorem take_push (ws : List Int) (k : Nat) (h : k < ws.length) : ws.take (k + 1) = ws.take k ++ [ix ws k] := by
  rw [List.take_add_one]
  simp [ix, List.getD, h]
set_option maxRecDepth 100000 in
set_option maxHeartbeats 1000000 in
theorem of_calls (s : ByteArray) (hs : s.size ≤ 1000000) (w : World) : Calls Tryz.prog 89 #[.string s] w (Gives w (nb (bI s)).toNat) := by
  have gs : ∀ (n : Nat) (h : n < s.size), ((s[n]'h).toNat : Int) = ix (bI s) n := fun n h => (ix_bI s n h).symm
  go_enter Tryz.func89, Tryz.ntmps89
  go_wp2_with fail
  go_loopw [3, 4] (fun v i wr => ∃ k g cap : Nat, k ≤ s.size ∧ i = .int .i64 k ∧ v = .slice (some ⟨g, 0, none⟩) ((k + 1) / 2) cap ∧ Own wr w.heap.size 3 .i64 g ((k + 1) / 2) cap (ofL ((bI s).take k)) ∧ Below w.heap.size w wr) (fun _ i _ => s.size - (intOf i).toNat)
  case atStart => exact ⟨0, w.heap.size, 0, by omega, rfl, rfl, Own.made rfl (Nat.le_refl _) (by decide) rfl rfl, (Below.refl _ w).alloc (Nat.le_refl _) _⟩
  case round =>
    obtain ⟨k, g1, cap1, hk, rfl, rfl, hO, hB⟩ := hrel
    have hU := U8s_bI s
    by_cases hlt : k < s.size
    · have i0 : (k : Int) < s.size := by omega
      have hu := hU k
      obtain ⟨u0, u1⟩ := hu
      have htk := take_push (bI s) k (by rw [bI_length]; exact hlt)
      have hlk : ((bI s).take k).length = k := by rw [List.length_take, bI_length]; omega
      have HTK := Lib.hid htk; have HLK := Lib.hid hlk
      clear htk hlk
      obtain ⟨q, rfl | rfl⟩ : ∃ q, k = 2 * q ∨ k = 2 * q + 1 := ⟨k / 2, by omega⟩
      · have e2 : ((2 * q : Nat) : Int) = 2 * (q : Int) := by omega
        have e3 : (2 * (q : Int)) % 2 = 0 := by omega
        have e4 : (2 * q + 1) / 2 = q := by omega
        have hps := ofL_push_even ((bI s).take (2 * q)) (ix (bI s) (2 * q)) (by rw [HLK.out]; omega)
        have HPS := Lib.hid hps
        have n0 : (2 * (q : Int)).toNat = 2 * q := by omega
        clear hps
        rw [e2] at i0 ⊢
        rw [e4] at hO ⊢
        have j0 : (0 : Int) ≤ 2 * (q : Int) := by omega
        clear e2 e4
        go_wp2_with (at_builtin; refine wpList_push rfl (.tmp 15) (.tmp 20) 52 rfl 8 Tryz.underlying52 (by kernel_rfl) rfl (hO.alloc _) ⟨wr.heap.size, 0, none⟩ 1 1 [ix (bI s) (2 * q)] rfl rfl (cell_one (by simp)) (by omega) (by omega) (by omega) ?_; intro g' cap' wz hO1 hgr hat)
        go_roundw
        case rel => exact ⟨2 * q + 1, g', cap', by omega, by go_num, by congr 1; omega, by rw [HTK.out, HPS.out, show (2 * q + 1 + 1) / 2 = q + 1 by omega]; exact hO1, (hB.alloc hB.size _).grown hgr (by simp; exact Nat.le_succ_of_le hB.size) (fun q hq => by injection hq with hq; subst hq; exact hO.lt.1)⟩
        case measure => simp [intOf]; omega
      · have e2 : ((2 * q + 1 : Nat) : Int) = 2 * (q : Int) + 1 := by omega
        have e3 : (2 * (q : Int) + 1) % 2 = 1 := by omega
        have e4 : (2 * q + 1 + 1) / 2 = q + 1 := by omega
        have e5 : (2 * (q : Int) + 1) / 2 = q := by omega
        have hps := ofL_push_odd ((bI s).take (2 * q + 1)) (ix (bI s) (2 * q + 1)) (by rw [HLK.out]; omega)
        rw [HLK.out, show (2 * q + 1) / 2 = q by omega] at hps
        have HPS := Lib.hid hps
        have n0 : (2 * (q : Int) + 1).toNat = 2 * q + 1 := by omega
        clear hps
        rw [e2] at i0 ⊢
        rw [e4] at hO ⊢
        have j0 : (0 : Int) ≤ 2 * (q : Int) + 1 := by omega
        have j1 : (q : Int) < ((q + 1 : Nat) : Int) := by omega
        have c0 := hO.cell q (by omega)
        have f0 := hO.frozen q
        have hdq := ofL_digs ((bI s).take (2 * q + 1)) (fun i => by
          by_cases h : i < 2 * q + 1
          · have := hU i
            rwa [show ix (bI s) i = ix ((bI s).take (2 * q + 1)) i by unfold ix; simp [List.getD, h]] at this
          · rw [ix_end _ _ (by rw [HLK.out]; omega)]; omega) q
        obtain ⟨d0, d1⟩ := hdq
        clear e2 e4
        go_wp2_with fail
        go_region
        go_wp2_with fail
        go_roundw
        case rel => exact ⟨2 * q + 1 + 1, g1, cap1, by omega, by go_num, by congr 1; omega, by rw [HTK.out, HPS.out, show (2 * q + 1 + 1 + 1) / 2 = q + 1 by omega]; exact (hO.set q _).drew, hB.grown (only_drawn (only_stored (g := g1) _ rfl _)) hB.size (fun k hk => by injection hk with hk; subst hk; exact hO.lt.1)⟩
        case measure => simp [intOf]; omega
    · obtain rfl : k = s.size := by omega
      have htk : (bI s).take s.size = bI s := List.take_of_length_le (by rw [bI_length]; exact Nat.le_refl _)
      rw [htk] at hO
      have hl := hO.len
      have hdd := ofL_digs (bI s) hU
      have hDr := Dr.of_own hO
      have hnv := nv_ofL (bI s)
      generalize ofL (bI s) = L at hO hl hdd hDr hnv
      rw [← hl]
      have HL := Lib.hid hl; have HNV := Lib.hid hnv
      clear htk hl hnv hO
      go_wp2_with fail
      refine (trim_calls g1 cap1 L wr hDr hdd).mono ?_
      rintro e w' ⟨rfl, rfl, hR⟩
      rw [HNV.out] at hR ⊢
      go_wp2_with fail
      go_ret
      exact ⟨g1, cap1, rfl, hR, hB⟩
end Go.Proofs.YtfoljmpphbhobaaGreatDoor
namespace Go.Proofs.YtfoljmpphbhobaaGreatDoor
open Go.RowKit Go.Spk
set_option linter.unusedVariables false
theorem lt_pow_len (n : Nat) : n < 65536 ^ (dg n).length := by
  have h := (pv_bd (dg_digs n) (dg n).length).2
  have e : pv (ix (dg n)) (dg n).length = (n : Int) := nv_dg n
  rw [e] at h
  have : ((65536 ^ (dg n).length : Nat) : Int) = (65536 : Int) ^ (dg n).length := by simp
  omega
theorem lt_of_len {a b : Nat} (h : (dg a).length < (dg b).length) : a < b := by
  refine Nat.lt_of_not_le fun hle => ?_
  have := dg_len (Nat.lt_of_le_of_lt hle (lt_pow_len a))
  omega
theorem div_step (a k : Nat) : a / 65536 ^ k = 65536 * (a / 65536 ^ (k + 1)) + a / 65536 ^ k % 65536 := by
  rw [Nat.pow_succ, ← Nat.div_div_eq_div_mul]; omega
theorem lt_of_div {a b : Nat} (x : Nat) (h : a / x < b / x) : a < b := by
  refine Nat.lt_of_not_le fun hle => ?_
  have := Nat.div_le_div_right (c := x) hle
  omega
theorem lt_of_digit {a b k : Nat} (h : a / 65536 ^ (k + 1) = b / 65536 ^ (k + 1)) (hd : ix (dg a) k < ix (dg b) k) : a < b := by
  rw [ix_dg, ix_dg] at hd
  refine lt_of_div (65536 ^ k) ?_
  rw [div_step a k, div_step b k, h]
  omega
theorem eq_of_digit {a b k : Nat} (h : a / 65536 ^ (k + 1) = b / 65536 ^ (k + 1)) (hd : ix (dg a) k = ix (dg b) k) : a / 65536 ^ k = b / 65536 ^ k := by
  rw [ix_dg, ix_dg] at hd
  rw [div_step a k, div_step b k, h]
  omega
theorem nv_dg_toNat (n : Nat) : (nv (dg n)).toNat = n := by rw [nv_dg]; omega
def cmpN (a b : Nat) : Int := if a < b then -1 else if b < a then 1 else 0
set_option maxRecDepth 100000 in
set_option maxHeartbeats 1000000 in
theorem cmp_calls (a b ga ca gb cb : Nat) (w : World) (hA : Dr w ga ca (dg a)) (hB : Dr w gb cb (dg b)) :
    Calls Tryz.prog 94 #[.slice (some ⟨ga, 0, none⟩) (dg a).length ca, .slice (some ⟨gb, 0, none⟩) (dg b).length cb] w
      fun e w' => e = .returned (.int .i64 (cmpN a b)) ∧ ∃ m, w' = w.drewN m := by
  have hra := hA.room
  have hma := hA.max
  have hrb := hB.room
  have hmb := hB.max
  unfold maxLen at hma hmb
  have hda := dg_digs a
  have hdb := dg_digs b
  generalize hla : (dg a).length = la
  generalize hlb : (dg b).length = lb
  rw [hla] at hra
  rw [hlb] at hrb
  have HLA := Lib.hid hla; have HLB := Lib.hid hlb
  clear hla hlb
  by_cases h1 : la < lb
  · have hne : ((la : Int) != (lb : Int)) = true := by simp; omega
    have i1 : (la : Int) < lb := by omega
    have hlt := lt_of_len (a := a) (b := b) (by rw [HLA.out, HLB.out]; exact h1)
    have hv : cmpN a b = -1 := by simp [cmpN, hlt]
    have HV := Lib.hid hv
    clear hlt hv
    go_enter Tryz.func94, Tryz.ntmps94
    go_wp2_with fail
    refine (HLA.out ▸ trim_calls ga ca (dg a) w hA hda).mono ?_
    rintro e w' ⟨rfl, rfl, hA2⟩
    rw [nv_dg_toNat, HLA.out]
    clear hA2
    go_wp2_with fail
    refine (HLB.out ▸ trim_calls gb cb (dg b) w hB hdb).mono ?_
    rintro e w' ⟨rfl, rfl, hB2⟩
    rw [nv_dg_toNat, HLB.out]
    clear hB2
    go_wp2_with fail
    go_ret
    exact ⟨by rw [HV.out]; rfl, 0, rfl⟩
  by_cases h2 : lb < la
  · have hne : ((la : Int) != (lb : Int)) = true := by simp; omega
    have i1 : ¬ (la : Int) < lb := by omega
    have hlt := lt_of_len (a := b) (b := a) (by rw [HLA.out, HLB.out]; exact h2)
    have hv : cmpN a b = 1 := by simp [cmpN, hlt, Nat.not_lt_of_lt hlt]
    have HV := Lib.hid hv
    clear hlt hv
    go_enter Tryz.func94, Tryz.ntmps94
    go_wp2_with fail
    refine (HLA.out ▸ trim_calls ga ca (dg a) w hA hda).mono ?_
    rintro e w' ⟨rfl, rfl, hA2⟩
    rw [nv_dg_toNat, HLA.out]
    clear hA2
    go_wp2_with fail
    refine (HLB.out ▸ trim_calls gb cb (dg b) w hB hdb).mono ?_
    rintro e w' ⟨rfl, rfl, hB2⟩
    rw [nv_dg_toNat, HLB.out]
    clear hB2
    go_wp2_with fail
    go_ret
    exact ⟨by rw [HV.out]; rfl, 0, rfl⟩
  · obtain rfl : la = lb := by omega
    clear h1 h2 hrb
    go_enter Tryz.func94, Tryz.ntmps94
    go_wp2_with fail
    refine (HLA.out ▸ trim_calls ga ca (dg a) w hA hda).mono ?_
    rintro e w' ⟨rfl, rfl, hA2⟩
    rw [nv_dg_toNat, HLA.out]
    clear hA2
    go_wp2_with fail
    refine (HLB.out ▸ trim_calls gb cb (dg b) w hB hdb).mono ?_
    rintro e w' ⟨rfl, rfl, hB2⟩
    rw [nv_dg_toNat, HLB.out]
    clear hB2
    go_wp2_with fail
    go_loopw [5] (fun i wr => ∃ k m : Nat, k ≤ la ∧ i = .int .i64 ((k : Int) - 1) ∧ a / 65536 ^ k = b / 65536 ^ k ∧ wr = w.drewN m) (fun i _ => (intOf i + 1).toNat)
    case atStart => exact ⟨la, 0, Nat.le_refl _, rfl, by rw [Nat.div_eq_of_lt (by have := lt_pow_len a; rwa [HLA.out] at this), Nat.div_eq_of_lt (by have := lt_pow_len b; rwa [HLB.out] at this)], rfl⟩
    case round =>
      obtain ⟨k, m, hk, rfl, hq, rfl⟩ := hrel
      have HQ := Lib.hid hq
      clear hq
      by_cases h0 : k = 0
      · subst h0
        have hv : cmpN a b = 0 := by
          have := HQ.out
          simp at this
          subst this
          simp [cmpN]
        have HV := Lib.hid hv
        clear hv
        rw [show ((0 : Nat) : Int) - 1 = -1 from rfl]
        go_wp2_with fail
        go_ret
        exact ⟨by rw [HV.out]; rfl, m, rfl⟩
      · obtain ⟨q, rfl⟩ : ∃ q, k = q + 1 := ⟨k - 1, by omega⟩
        have e1 : ((q + 1 : Nat) : Int) - 1 = q := by omega
        rw [e1]
        clear e1
        have i0 : (q : Int) < la := by omega
        have ca0 := hA.cell q (by rw [HLA.out]; omega)
        have cb0 := hB.cell q (by rw [HLB.out]; omega)
        have hd1 := hda q
        have hd2 := hdb q
        generalize hx : ix (dg a) q = x at ca0 hd1
        generalize hy : ix (dg b) q = y at cb0 hd2
        have HX := Lib.hid hx; have HY := Lib.hid hy
        clear hx hy
        go_wp2_with fail
        by_cases hxy : x < y
        · have hv : cmpN a b = -1 := by
            have := lt_of_digit HQ.out (by rw [HX.out, HY.out]; exact hxy)
            simp [cmpN, this]
          have HV := Lib.hid hv
          clear hv
          go_quiet (fail)
          go_wp2_with fail
          go_ret
          exact ⟨by rw [HV.out]; rfl, _, World.drewN_drewN _ _ _⟩
        · go_quiet (fail)
          go_wp2_with fail
          by_cases hyx : y < x
          · have hv : cmpN a b = 1 := by
              have := lt_of_digit HQ.out.symm (by rw [HX.out, HY.out]; exact hyx)
              simp [cmpN, this, Nat.not_lt_of_lt this]
            have HV := Lib.hid hv
            clear hv
            go_quiet (fail)
            go_wp2_with fail
            go_ret
            exact ⟨by rw [HV.out]; rfl, _, World.drewN_drewN _ _ _⟩
          · go_quiet (fail)
            go_wp2_with fail
            go_roundw
            case rel => exact ⟨q, _, by omega, by go_num, eq_of_digit HQ.out (by rw [HX.out, HY.out]; omega), rfl⟩
            case measure => simp [intOf]
end Go.Proofs.YtfoljmpphbhobaaGreatDoor
namespace Go.Proofs.YtfoljmpphbhobaaGreatDoor
open Go.RowKit Go.Spk
set_option linter.unusedVariables false
theorem nv_smallT (n k : Nat) : nv (smallT n k) = ((n % 65536 ^ k : Nat) : Int) := by
  induction k generalizing n with
  | zero => simp [smallT, nv, pv, Nat.mod_one]
  | succ k ih =>
    have e : smallT n (k + 1) = ((n % 65536 : Nat) : Int) :: smallT (n / 65536) k := by
      unfold smallT
      rw [List.range_succ_eq_map, List.map_cons, List.map_map]
      congr 1
      · simp
      · apply List.map_congr_left
        intro j _
        simp only [Function.comp_def, Nat.succ_eq_add_one]
        rw [Nat.div_div_eq_div_mul, Nat.pow_succ, Nat.mul_comm 65536]
    rw [e, nv_cons, ih, Nat.pow_succ, Nat.mul_comm (65536 ^ k) 65536, Nat.mod_mul]
    omega
theorem smallT_digs (n k : Nat) : Digs (smallT n k) := by
  intro i
  by_cases h : i < k
  · have : ix (smallT n k) i = ((n / 65536 ^ i % 65536 : Nat) : Int) := by simp [ix, smallT, List.getD, h]
    rw [this]; omega
  · rw [ix_end _ _ (by rw [smallT_length]; omega)]; omega
theorem trim_smallT (n k : Nat) (h : n < 65536 ^ k) : (nv (smallT n k)).toNat = n := by
  rw [nv_smallT, Nat.mod_eq_of_lt h]; omega
/-- The carry into digit k. -/
def carry (a b k : Nat) : Nat := (a % 65536 ^ k + b % 65536 ^ k) / 65536 ^ k
theorem pow_pos' (k : Nat) : 0 < 65536 ^ k := Nat.pow_pos (by decide)
theorem carry_zero (a b : Nat) : carry a b 0 = 0 := by simp [carry, Nat.mod_one]
theorem carry_le (a b k : Nat) : carry a b k ≤ 1 := by
  unfold carry
  have h1 := Nat.mod_lt a (pow_pos' k)
  have h2 := Nat.mod_lt b (pow_pos' k)
  have : (a % 65536 ^ k + b % 65536 ^ k) / 65536 ^ k < 2 := by
    rw [Nat.div_lt_iff_lt_mul (pow_pos' k)]; omega
  omega
theorem carry_div (a b k : Nat) : (a + b) / 65536 ^ k = a / 65536 ^ k + b / 65536 ^ k + carry a b k := by
  unfold carry
  have h1 := Nat.div_add_mod a (65536 ^ k)
  have h2 := Nat.div_add_mod b (65536 ^ k)
  have hp := pow_pos' k
  generalize 65536 ^ k = P at *
  have e : a + b = (a % P + b % P) + P * (a / P + b / P) := by rw [Nat.mul_add]; omega
  conv => lhs; rw [e]
  rw [Nat.add_mul_div_left _ _ hp]
  omega
theorem carry_digit (a b k : Nat) : ((carry a b k : Int) + ix (dg a) k + ix (dg b) k) % 65536 = (((a + b) / 65536 ^ k % 65536 : Nat) : Int) := by
  rw [ix_dg, ix_dg, carry_div]; omega
theorem carry_next (a b k : Nat) : ((carry a b k : Int) + ix (dg a) k + ix (dg b) k) / 65536 = (carry a b (k + 1) : Int) := by
  rw [ix_dg, ix_dg]
  have e : carry a b (k + 1) = (carry a b k + a / 65536 ^ k % 65536 + b / 65536 ^ k % 65536) / 65536 := by
    unfold carry
    rw [Nat.pow_succ, Nat.mod_mul, Nat.mod_mul, ← Nat.div_div_eq_div_mul]
    have hp := pow_pos' k
    generalize 65536 ^ k = P at *
    rw [show a % P + P * (a / P % 65536) + (b % P + P * (b / P % 65536)) = (a % P + b % P) + P * (a / P % 65536 + b / P % 65536) by rw [Nat.mul_add]; omega, Nat.add_mul_div_left _ _ hp]
    congr 1; omega
  rw [e]; omega
theorem carry_end (a b k : Nat) (ha : (dg a).length < k) (hb : (dg b).length < k) : carry a b k = 0 := by
  unfold carry
  obtain ⟨j, rfl⟩ : ∃ j, k = j + 1 := ⟨k - 1, by omega⟩
  have h1 : a < 65536 ^ j := Nat.lt_of_lt_of_le (lt_pow_len a) (Nat.pow_le_pow_right (by decide) (by omega))
  have h2 : b < 65536 ^ j := Nat.lt_of_lt_of_le (lt_pow_len b) (Nat.pow_le_pow_right (by decide) (by omega))
  have h3 : 65536 ^ (j + 1) = 65536 ^ j * 65536 := Nat.pow_succ ..
  rw [Nat.mod_eq_of_lt (by omega), Nat.mod_eq_of_lt (by omega)]
  exact Nat.div_eq_of_lt (by omega)
set_option maxRecDepth 100000 in
set_option maxHeartbeats 2000000 in
theorem add_calls (a b ga ca gb cb : Nat) (w : World) (hA : Dr w ga ca (dg a)) (hB : Dr w gb cb (dg b)) (sa : (dg a).length ≤ 1000) (sb : (dg b).length ≤ 1000) :
    Calls Tryz.prog 93 #[.slice (some ⟨ga, 0, none⟩) (dg a).length ca, .slice (some ⟨gb, 0, none⟩) (dg b).length cb] w (Gives w (a + b)) := by
  have hra := hA.room
  have hma := hA.max
  have hrb := hB.room
  have hmb := hB.max
  unfold maxLen at hma hmb
  have hda := dg_digs a
  have hdb := dg_digs b
  generalize hla : (dg a).length = la at sa hra
  generalize hlb : (dg b).length = lb at sb hrb
  have HLA := Lib.hid hla; have HLB := Lib.hid hlb
  clear hla hlb
  go_enter Tryz.func93, Tryz.ntmps93
  go_wp2_with fail
  go_loopw [5, 6, 7] (fun v c i wr => ∃ k g cap : Nat, k ≤ max la lb + 1 ∧ i = .int .i64 k ∧ c = .int .i64 (carry a b k : Nat) ∧ v = .slice (some ⟨g, 0, none⟩) k cap ∧ Own wr w.heap.size 3 .i64 g k cap (smallT (a + b) k) ∧ Below w.heap.size w wr) (fun _ _ i _ => la + lb + 2 - (intOf i).toNat)
  case atStart => exact ⟨0, w.heap.size, 0, by omega, rfl, by rw [carry_zero]; rfl, rfl, Own.made rfl (Nat.le_refl _) (by decide) rfl rfl, (Below.refl _ w).alloc (Nat.le_refl _) _⟩
  case round =>
    obtain ⟨k, g1, cap1, hk, rfl, rfl, rfl, hO, hW⟩ := hrel
    have hAr := hA.on hW
    have hBr := hB.on hW
    have hc1 := carry_le a b k
    have hdig := carry_digit a b k
    have hnx := carry_next a b k
    have hend := carry_end a b k
    rw [HLA.out, HLB.out] at hend
    have hx := hda k
    have hy := hdb k
    generalize hcc : carry a b k = c at *
    have HC := Lib.hid hcc
    have ea : la ≤ k → ix (dg a) k = 0 := fun h => ix_end _ _ (by rw [HLA.out]; exact h)
    have eb : lb ≤ k → ix (dg b) k = 0 := fun h => ix_end _ _ (by rw [HLB.out]; exact h)
    have EA := Lib.hid ea; have EB := Lib.hid eb
    have HDIG := Lib.hid hdig; have HNX := Lib.hid hnx; have HEND := Lib.hid hend
    have HAR := Lib.hid hAr; have HBR := Lib.hid hBr
    generalize hX : ix (dg a) k = x at hx
    generalize hY : ix (dg b) k = y at hy
    have HX := Lib.hid hX; have HY := Lib.hid hY
    obtain ⟨x0, x1⟩ := hx
    obtain ⟨y0, y1⟩ := hy
    clear ea eb hdig hnx hend hAr hBr hcc hX hY hda hdb
    by_cases h1 : k < la
    · by_cases h2 : k < lb
      · skip
        have ca0 := HAR.out.cell k (by rw [HLA.out]; omega)
        rw [HX.out] at ca0
        have i1 : (k : Int) < la := by omega
        have cb0 := HBR.out.cell k (by rw [HLB.out]; omega)
        rw [HY.out] at cb0
        have i2 : (k : Int) < lb := by omega
        have hdv : ((c : Int) + x + y) % 65536 = (((a + b) / 65536 ^ k % 65536 : Nat) : Int) := by have := HDIG.out; rw [HX.out, HY.out] at this; simpa using this
        have hnv : ((c : Int) + x + y) / 65536 = (carry a b (k + 1) : Int) := by have := HNX.out; rw [HX.out, HY.out] at this; simpa using this
        have HDV := Lib.hid hdv; have HNV := Lib.hid hnv
        clear hdv hnv
        go_wp2_with (at_builtin; refine wpList_push rfl (.tmp 45) (.tmp 48) 52 rfl 8 Tryz.underlying52 (by kernel_rfl) rfl (hO.alloc _) ⟨wr.heap.size, 0, none⟩ 1 1 [((c : Int) + x + y) % 65536] rfl rfl (cell_one (by simp)) (by omega) (by omega) (by omega) ?_; intro g' cap' wz hO1 hgr hat)
        go_roundw
        case rel => exact ⟨k + 1, g', cap', by first | omega | (have := HEND.out; omega), by go_num, by rw [HNV.out], rfl, by rw [smallT_succ, ← HDV.out]; exact hO1, (hW.alloc hW.size _).grown hgr (by simp; exact Nat.le_succ_of_le hW.size) (fun q hq => by injection hq with hq; subst hq; exact hO.lt.1)⟩
        case measure => simp [intOf]; omega
      · skip
        have ca0 := HAR.out.cell k (by rw [HLA.out]; omega)
        rw [HX.out] at ca0
        have i1 : (k : Int) < la := by omega
        have i2 : ¬ (k : Int) < lb := by omega
        have zy : y = 0 := by rw [← HY.out]; exact EB.out (by omega)
        have ZY := Lib.hid zy
        clear zy
        have hdv : ((c : Int) + x) % 65536 = (((a + b) / 65536 ^ k % 65536 : Nat) : Int) := by have := HDIG.out; rw [HX.out, HY.out, ZY.out] at this; simpa using this
        have hnv : ((c : Int) + x) / 65536 = (carry a b (k + 1) : Int) := by have := HNX.out; rw [HX.out, HY.out, ZY.out] at this; simpa using this
        have HDV := Lib.hid hdv; have HNV := Lib.hid hnv
        clear hdv hnv
        go_wp2_with (at_builtin; refine wpList_push rfl (.tmp 45) (.tmp 48) 52 rfl 8 Tryz.underlying52 (by kernel_rfl) rfl (hO.alloc _) ⟨wr.heap.size, 0, none⟩ 1 1 [((c : Int) + x) % 65536] rfl rfl (cell_one (by simp)) (by omega) (by omega) (by omega) ?_; intro g' cap' wz hO1 hgr hat)
        go_roundw
        case rel => exact ⟨k + 1, g', cap', by first | omega | (have := HEND.out; omega), by go_num, by rw [HNV.out], rfl, by rw [smallT_succ, ← HDV.out]; exact hO1, (hW.alloc hW.size _).grown hgr (by simp; exact Nat.le_succ_of_le hW.size) (fun q hq => by injection hq with hq; subst hq; exact hO.lt.1)⟩
        case measure => simp [intOf]; omega
    · by_cases h2 : k < lb
      · skip
        have i1 : ¬ (k : Int) < la := by omega
        have zx : x = 0 := by rw [← HX.out]; exact EA.out (by omega)
        have ZX := Lib.hid zx
        clear zx
        have cb0 := HBR.out.cell k (by rw [HLB.out]; omega)
        rw [HY.out] at cb0
        have i2 : (k : Int) < lb := by omega
        have hdv : ((c : Int) + y) % 65536 = (((a + b) / 65536 ^ k % 65536 : Nat) : Int) := by have := HDIG.out; rw [HX.out, HY.out, ZX.out] at this; simpa using this
        have hnv : ((c : Int) + y) / 65536 = (carry a b (k + 1) : Int) := by have := HNX.out; rw [HX.out, HY.out, ZX.out] at this; simpa using this
        have HDV := Lib.hid hdv; have HNV := Lib.hid hnv
        clear hdv hnv
        go_wp2_with (at_builtin; refine wpList_push rfl (.tmp 45) (.tmp 48) 52 rfl 8 Tryz.underlying52 (by kernel_rfl) rfl (hO.alloc _) ⟨wr.heap.size, 0, none⟩ 1 1 [((c : Int) + y) % 65536] rfl rfl (cell_one (by simp)) (by omega) (by omega) (by omega) ?_; intro g' cap' wz hO1 hgr hat)
        go_roundw
        case rel => exact ⟨k + 1, g', cap', by first | omega | (have := HEND.out; omega), by go_num, by rw [HNV.out], rfl, by rw [smallT_succ, ← HDV.out]; exact hO1, (hW.alloc hW.size _).grown hgr (by simp; exact Nat.le_succ_of_le hW.size) (fun q hq => by injection hq with hq; subst hq; exact hO.lt.1)⟩
        case measure => simp [intOf]; omega
      · by_cases h3 : 0 < c
        · have i3 : (0 : Int) < c := by omega
          have hkm : k ≤ max la lb := by
            refine Nat.le_of_not_lt fun hlt => ?_
            have := HEND.out (by omega) (by omega)
            omega
          have i1 : ¬ (k : Int) < la := by omega
          have zx : x = 0 := by rw [← HX.out]; exact EA.out (by omega)
          have ZX := Lib.hid zx
          clear zx
          have i2 : ¬ (k : Int) < lb := by omega
          have zy : y = 0 := by rw [← HY.out]; exact EB.out (by omega)
          have ZY := Lib.hid zy
          clear zy
          have hdv : ((c : Int)) % 65536 = (((a + b) / 65536 ^ k % 65536 : Nat) : Int) := by have := HDIG.out; rw [HX.out, HY.out, ZX.out, ZY.out] at this; simpa using this
          have hnv : ((c : Int)) / 65536 = (carry a b (k + 1) : Int) := by have := HNX.out; rw [HX.out, HY.out, ZX.out, ZY.out] at this; simpa using this
          have HDV := Lib.hid hdv; have HNV := Lib.hid hnv
          clear hdv hnv
          go_wp2_with (at_builtin; refine wpList_push rfl (.tmp 45) (.tmp 48) 52 rfl 8 Tryz.underlying52 (by kernel_rfl) rfl (hO.alloc _) ⟨wr.heap.size, 0, none⟩ 1 1 [((c : Int)) % 65536] rfl rfl (cell_one (by simp)) (by omega) (by omega) (by omega) ?_; intro g' cap' wz hO1 hgr hat)
          go_roundw
          case rel => exact ⟨k + 1, g', cap', by first | omega | (have := HEND.out; omega), by go_num, by rw [HNV.out], rfl, by rw [smallT_succ, ← HDV.out]; exact hO1, (hW.alloc hW.size _).grown hgr (by simp; exact Nat.le_succ_of_le hW.size) (fun q hq => by injection hq with hq; subst hq; exact hO.lt.1)⟩
          case measure => simp [intOf]; omega
        · obtain rfl : c = 0 := by omega
          have i1 : ¬ (k : Int) < la := by omega
          have i2 : ¬ (k : Int) < lb := by omega
          have hsum : a + b < 65536 ^ k := by
            have e1 : a < 65536 ^ k := Nat.lt_of_lt_of_le (lt_pow_len a) (Nat.pow_le_pow_right (by decide) (by rw [HLA.out]; omega))
            have e2 : b < 65536 ^ k := Nat.lt_of_lt_of_le (lt_pow_len b) (Nat.pow_le_pow_right (by decide) (by rw [HLB.out]; omega))
            have e3 := carry_div a b k
            rw [HC.out, Nat.div_eq_of_lt e1, Nat.div_eq_of_lt e2] at e3
            refine Nat.lt_of_not_le fun hle => ?_
            have := Nat.div_pos hle (pow_pos' k)
            omega
          have hts := trim_smallT (a + b) k hsum
          have HTS := Lib.hid hts
          have hl := hO.len
          have hDr := Dr.of_own hO
          have hdd := smallT_digs (a + b) k
          generalize smallT (a + b) k = L at hl hDr hdd HTS
          clear hts hsum hO
          have HL := Lib.hid hl
          rw [show ((0 : Nat) : Int) = 0 from rfl]
          go_wp2_with fail
          refine (HL.out ▸ trim_calls g1 cap1 L wr hDr hdd).mono ?_
          rintro e w' ⟨rfl, rfl, hR⟩
          rw [HTS.out] at hR ⊢
          go_wp2_with fail
          go_ret
          exact ⟨g1, cap1, rfl, hR, hW⟩
end Go.Proofs.YtfoljmpphbhobaaGreatDoor
namespace Go.Proofs.YtfoljmpphbhobaaGreatDoor
open Go.RowKit Go.Spk
set_option linter.unusedVariables false
/-- The borrow from digit k. -/
def borrow (a b k : Nat) : Nat := if a % 65536 ^ k < b % 65536 ^ k then 1 else 0
theorem borrow_zero (a b : Nat) : borrow a b 0 = 0 := by simp [borrow, Nat.mod_one]
theorem borrow_le (a b k : Nat) : borrow a b k ≤ 1 := by unfold borrow; split <;> omega
theorem borrow_div (a b k : Nat) (h : b ≤ a) : (((a - b) / 65536 ^ k : Nat) : Int) = ((a / 65536 ^ k : Nat) : Int) - ((b / 65536 ^ k : Nat) : Int) - (borrow a b k : Int) := by
  have h1 := Nat.div_add_mod a (65536 ^ k)
  have h2 := Nat.div_add_mod b (65536 ^ k)
  have hp := pow_pos' k
  have r1 := Nat.mod_lt a hp
  have r2 := Nat.mod_lt b hp
  unfold borrow
  generalize 65536 ^ k = P at *
  generalize a / P = x at *
  generalize b / P = y at *
  generalize a % P = r at *
  generalize b % P = s at *
  rw [Int.natCast_ediv, Int.ofNat_sub h, ← h1, ← h2]
  simp only [Int.natCast_add, Int.natCast_mul]
  have hP : (0 : Int) < P := by omega
  by_cases hrs : r < s
  · rw [if_pos hrs]
    rw [show ((P : Int) * x + r - (P * y + s)) = ((r : Int) - s + P) + P * ((x : Int) - y - 1) by rw [Int.mul_sub, Int.mul_sub]; omega]
    rw [Int.add_mul_ediv_left _ _ (by omega), Int.ediv_eq_zero_of_lt (by omega) (by omega)]
    omega
  · rw [if_neg hrs]
    rw [show ((P : Int) * x + r - (P * y + s)) = ((r : Int) - s) + P * ((x : Int) - y) by rw [Int.mul_sub]; omega]
    rw [Int.add_mul_ediv_left _ _ (by omega), Int.ediv_eq_zero_of_lt (by omega) (by omega)]
    omega
theorem borrow_next (a b k : Nat) : borrow a b (k + 1) = if ix (dg a) k - (borrow a b k : Int) - ix (dg b) k < 0 then 1 else 0 := by
  rw [ix_dg, ix_dg]
  unfold borrow
  rw [Nat.pow_succ, Nat.mod_mul, Nat.mod_mul]
  have hp := pow_pos' k
  have r1 := Nat.mod_lt a hp
  have r2 := Nat.mod_lt b hp
  generalize 65536 ^ k = P at *
  generalize a / P % 65536 = x at *
  generalize b / P % 65536 = y at *
  generalize a % P = r at *
  generalize b % P = s at *
  rcases Nat.lt_trichotomy x y with h | h | h
  · have := Nat.mul_le_mul_left P (show x + 1 ≤ y from h)
    rw [Nat.mul_add] at this
    rw [if_pos (by omega), if_pos (by split <;> omega)]
  · subst h
    by_cases hrs : r < s
    · rw [if_pos (by omega), if_pos hrs, if_pos (by omega)]
    · rw [if_neg (by omega), if_neg hrs, if_neg (by omega)]
  · have := Nat.mul_le_mul_left P (show y + 1 ≤ x from h)
    rw [Nat.mul_add] at this
    rw [if_neg (by omega), if_neg (by split <;> omega)]
theorem borrow_digit (a b k : Nat) (h : b ≤ a) (d : Int) (hd : d = ix (dg a) k - (borrow a b k : Int) - ix (dg b) k) :
    (if d < 0 then d + 65536 else d) = (((a - b) / 65536 ^ k % 65536 : Nat) : Int) := by
  have h1 := borrow_div a b k h
  have h2 := borrow_le a b k
  rw [ix_dg, ix_dg] at hd
  split <;> omega
set_option maxRecDepth 100000 in
set_option maxHeartbeats 2000000 in
theorem sub_calls (a b ga ca gb cb : Nat) (hle : b ≤ a) (w : World) (hA : Dr w ga ca (dg a)) (hB : Dr w gb cb (dg b)) (sa : (dg a).length ≤ 1000) (sb : (dg b).length ≤ 1000) :
    Calls Tryz.prog 90 #[.slice (some ⟨ga, 0, none⟩) (dg a).length ca, .slice (some ⟨gb, 0, none⟩) (dg b).length cb] w (Gives w (a - b)) := by
  have hra := hA.room
  have hma := hA.max
  have hrb := hB.room
  have hmb := hB.max
  unfold maxLen at hma hmb
  have hda := dg_digs a
  have hdb := dg_digs b
  generalize hla : (dg a).length = la at sa hra
  generalize hlb : (dg b).length = lb at sb hrb
  have HLA := Lib.hid hla; have HLB := Lib.hid hlb; have HLE := Lib.hid hle
  clear hla hlb hle
  go_enter Tryz.func90, Tryz.ntmps90
  go_wp2_with fail
  go_loopw [5, 6, 12] (fun v c i wr => ∃ k g cap : Nat, k ≤ la ∧ i = .int .i64 k ∧ c = .int .i64 (borrow a b k : Nat) ∧ v = .slice (some ⟨g, 0, none⟩) k cap ∧ Own wr w.heap.size 3 .i64 g k cap (smallT (a - b) k) ∧ Below w.heap.size w wr) (fun _ _ i _ => la - (intOf i).toNat)
  case atStart => exact ⟨0, w.heap.size, 0, by omega, rfl, by rw [borrow_zero]; rfl, rfl, Own.made rfl (Nat.le_refl _) (by decide) rfl rfl, (Below.refl _ w).alloc (Nat.le_refl _) _⟩
  case round =>
    obtain ⟨k, g1, cap1, hk, rfl, rfl, rfl, hO, hW⟩ := hrel
    by_cases h1 : k < la
    · have hAr := hA.on hW
      have hBr := hB.on hW
      have hc1 := borrow_le a b k
      have hdig := borrow_digit a b k HLE.out _ rfl
      have hnx := borrow_next a b k
      have hx := hda k
      have hy := hdb k
      generalize hcc : borrow a b k = c at *
      have HC := Lib.hid hcc
      have eb : lb ≤ k → ix (dg b) k = 0 := fun h => ix_end _ _ (by rw [HLB.out]; exact h)
      have EB := Lib.hid eb
      have HDIG := Lib.hid hdig; have HNX := Lib.hid hnx
      have HAR := Lib.hid hAr; have HBR := Lib.hid hBr
      generalize hX : ix (dg a) k = x at hx
      generalize hY : ix (dg b) k = y at hy
      have HX := Lib.hid hX; have HY := Lib.hid hY
      obtain ⟨x0, x1⟩ := hx
      obtain ⟨y0, y1⟩ := hy
      clear eb hdig hnx hAr hBr hcc hX hY hda hdb
      have ca0 := HAR.out.cell k (by rw [HLA.out]; omega)
      rw [HX.out] at ca0
      have i1 : (k : Int) < la := by omega
      by_cases h2 : k < lb
      · have cb0 := HBR.out.cell k (by rw [HLB.out]; omega)
        rw [HY.out] at cb0
        have i2 : (k : Int) < lb := by omega
        by_cases hn : x - (c : Int) - y < 0
        · skip
          have hdv : x - (c : Int) - y + 65536 = (((a - b) / 65536 ^ k % 65536 : Nat) : Int) := by have := HDIG.out; rw [HX.out, HY.out] at this; rw [if_pos (by omega)] at this; omega
          have hnv : borrow a b (k + 1) = 1 := by have := HNX.out; rw [HX.out, HY.out] at this; rw [if_pos (by omega)] at this; exact this
          have HDV := Lib.hid hdv; have HNV := Lib.hid hnv
          clear hdv hnv
          go_wp2_with (at_builtin; refine wpList_push rfl (.tmp 35) (.tmp 37) 52 rfl 8 Tryz.underlying52 (by kernel_rfl) rfl (hO.alloc _) ⟨wr.heap.size, 0, none⟩ 1 1 [x - (c : Int) - y + 65536] rfl rfl (cell_one (by simp)) (by omega) (by omega) (by omega) ?_; intro g' cap' wz hO1 hgr hat)
          go_roundw
          case rel => exact ⟨k + 1, g', cap', by omega, by go_num, by rw [HNV.out]; rfl, rfl, by rw [smallT_succ, ← HDV.out]; exact hO1, (hW.alloc hW.size _).grown hgr (by simp; exact Nat.le_succ_of_le hW.size) (fun q hq => by injection hq with hq; subst hq; exact hO.lt.1)⟩
          case measure => simp [intOf]; omega
        · skip
          have hdv : x - (c : Int) - y = (((a - b) / 65536 ^ k % 65536 : Nat) : Int) := by have := HDIG.out; rw [HX.out, HY.out] at this; rw [if_neg (by omega)] at this; omega
          have hnv : borrow a b (k + 1) = 0 := by have := HNX.out; rw [HX.out, HY.out] at this; rw [if_neg (by omega)] at this; exact this
          have HDV := Lib.hid hdv; have HNV := Lib.hid hnv
          clear hdv hnv
          go_wp2_with (at_builtin; refine wpList_push rfl (.tmp 35) (.tmp 37) 52 rfl 8 Tryz.underlying52 (by kernel_rfl) rfl (hO.alloc _) ⟨wr.heap.size, 0, none⟩ 1 1 [x - (c : Int) - y] rfl rfl (cell_one (by simp)) (by omega) (by omega) (by omega) ?_; intro g' cap' wz hO1 hgr hat)
          go_roundw
          case rel => exact ⟨k + 1, g', cap', by omega, by go_num, by rw [HNV.out]; rfl, rfl, by rw [smallT_succ, ← HDV.out]; exact hO1, (hW.alloc hW.size _).grown hgr (by simp; exact Nat.le_succ_of_le hW.size) (fun q hq => by injection hq with hq; subst hq; exact hO.lt.1)⟩
          case measure => simp [intOf]; omega
      · have i2 : ¬ (k : Int) < lb := by omega
        have zy : y = 0 := by rw [← HY.out]; exact EB.out (by omega)
        have ZY := Lib.hid zy
        clear zy
        by_cases hn : x - (c : Int) < 0
        · skip
          have hdv : x - (c : Int) + 65536 = (((a - b) / 65536 ^ k % 65536 : Nat) : Int) := by have := HDIG.out; rw [HX.out, HY.out, ZY.out] at this; rw [if_pos (by omega)] at this; omega
          have hnv : borrow a b (k + 1) = 1 := by have := HNX.out; rw [HX.out, HY.out, ZY.out] at this; rw [if_pos (by omega)] at this; exact this
          have HDV := Lib.hid hdv; have HNV := Lib.hid hnv
          clear hdv hnv
          go_wp2_with (at_builtin; refine wpList_push rfl (.tmp 35) (.tmp 37) 52 rfl 8 Tryz.underlying52 (by kernel_rfl) rfl (hO.alloc _) ⟨wr.heap.size, 0, none⟩ 1 1 [x - (c : Int) + 65536] rfl rfl (cell_one (by simp)) (by omega) (by omega) (by omega) ?_; intro g' cap' wz hO1 hgr hat)
          go_roundw
          case rel => exact ⟨k + 1, g', cap', by omega, by go_num, by rw [HNV.out]; rfl, rfl, by rw [smallT_succ, ← HDV.out]; exact hO1, (hW.alloc hW.size _).grown hgr (by simp; exact Nat.le_succ_of_le hW.size) (fun q hq => by injection hq with hq; subst hq; exact hO.lt.1)⟩
          case measure => simp [intOf]; omega
        · skip
          have hdv : x - (c : Int) = (((a - b) / 65536 ^ k % 65536 : Nat) : Int) := by have := HDIG.out; rw [HX.out, HY.out, ZY.out] at this; rw [if_neg (by omega)] at this; omega
          have hnv : borrow a b (k + 1) = 0 := by have := HNX.out; rw [HX.out, HY.out, ZY.out] at this; rw [if_neg (by omega)] at this; exact this
          have HDV := Lib.hid hdv; have HNV := Lib.hid hnv
          clear hdv hnv
          go_wp2_with (at_builtin; refine wpList_push rfl (.tmp 35) (.tmp 37) 52 rfl 8 Tryz.underlying52 (by kernel_rfl) rfl (hO.alloc _) ⟨wr.heap.size, 0, none⟩ 1 1 [x - (c : Int)] rfl rfl (cell_one (by simp)) (by omega) (by omega) (by omega) ?_; intro g' cap' wz hO1 hgr hat)
          go_roundw
          case rel => exact ⟨k + 1, g', cap', by omega, by go_num, by rw [HNV.out]; rfl, rfl, by rw [smallT_succ, ← HDV.out]; exact hO1, (hW.alloc hW.size _).grown hgr (by simp; exact Nat.le_succ_of_le hW.size) (fun q hq => by injection hq with hq; subst hq; exact hO.lt.1)⟩
          case measure => simp [intOf]; omega
    · obtain rfl : k = la := by omega
      have hsum : a - b < 65536 ^ k := by
        have e1 : a < 65536 ^ k := by have := lt_pow_len a; rwa [HLA.out] at this
        omega
      have hts := trim_smallT (a - b) k hsum
      have HTS := Lib.hid hts
      have hl := hO.len
      have hDr := Dr.of_own hO
      have hdd := smallT_digs (a - b) k
      generalize smallT (a - b) k = L at hl hDr hdd HTS
      clear hts hsum hO
      have HL := Lib.hid hl
      clear hl
      go_wp2_with fail
      refine (HL.out ▸ trim_calls g1 cap1 L wr hDr hdd).mono ?_
      rintro e w' ⟨rfl, rfl, hR⟩
      rw [HTS.out] at hR ⊢
      go_wp2_with fail
      go_ret
      exact ⟨g1, cap1, rfl, hR, hW⟩
end Go.Proofs.YtfoljmpphbhobaaGreatDoor
namespace Go.Proofs.YtfoljmpphbhobaaGreatDoor
open Go.RowKit Go.Spk
set_option linter.unusedVariables false
/-- 2^130, under a name. -/
def P130 : Nat := 2 ^ 130
theorem dg_p130 : dg (P130) = [0, 0, 0, 0, 0, 0, 0, 0, 4] := by
  have h := dg_of_take [0, 0, 0, 0, 0, 0, 0, 0, 4] 9 (fun i => by
    by_cases h : i < 9
    · revert i; decide
    · rw [ix_end _ _ (by simp; omega)]; omega) (by decide) (fun i hi => ix_end _ _ (by simpa using hi)) (.inr (by decide))
  rw [show (nv [0, 0, 0, 0, 0, 0, 0, 0, 4]).toNat = P130 by decide +kernel] at h
  exact h.symm
set_option maxRecDepth 100000 in
set_option maxHeartbeats 2000000 in
theorem power_calls (w : World) : Calls Tryz.prog 91 #[.int .i64 130] w (Gives w (P130)) := by
  go_enter Tryz.func91, Tryz.ntmps91
  obtain ⟨i, f1, f2, f3, f4⟩ := info_of (P := Tryz.prog) (e := 3) (k := .i64) (bytes := 8) (by kernel_rfl)
  obtain ⟨w1, hrun, hO, hg⟩ := run_make_full (P := Tryz.prog) w w.heap.size 52 3 i (.int .i64 0) 1 Tryz.underlying52 f1 f2 f3 .i64 .i64 9 (by rw [f4]; decide) (by decide) (Nat.le_refl _)
  rw [show ((9 : Nat) : Int) = 9 from rfl] at hrun
  have hO' : Own w1 w.heap.size 3 .i64 w.heap.size 9 9 (List.replicate 9 0) := by
    rw [show (madeCells (Value.int .i64 0).cells (9 * 1)).toList = (List.replicate 9 (0 : Int)).map (Value.int .i64) by kernel_rfl] at hO
    exact hO
  have c0 := hO'.cell 8 (by decide)
  have z0 := hO'.frozen 8
  have HO := Lib.hid hO'
  clear hO hO' f1 f2 f3 f4
  go_wp2_with fail
  go_ret
  have hF := HO.out.set 8 4
  refine ⟨w.heap.size, 9, by rw [dg_p130]; rfl, ?_, ((Below.refl _ w).grown hg (Nat.le_refl _) (fun q hq => by cases hq)).grown (only_stored (g := w.heap.size) _ rfl _) ?_ (fun q hq => by injection hq with hq; omega)⟩
  · rw [dg_p130]; exact Dr.of_own hF
  · exact hg.size
theorem half_digit (a k : Nat) : (ix (dg a) (8 + k) + ix (dg a) (8 + k + 1) * 65536) / 4 % 65536 = ((a / P130 / 65536 ^ k % 65536 : Nat) : Int) := by
  rw [ix_dg, ix_dg]
  have e : a / P130 / 65536 ^ k = a / 65536 ^ (8 + k) / 4 := by
    rw [Nat.div_div_eq_div_mul, Nat.div_div_eq_div_mul, Nat.pow_add]
    congr 1
    rw [show P130 = 65536 ^ 8 * 4 by decide +kernel]
    rw [Nat.mul_assoc, Nat.mul_comm 4, ← Nat.mul_assoc]
  rw [e, Nat.pow_succ, ← Nat.div_div_eq_div_mul]
  omega
set_option maxRecDepth 100000 in
set_option maxHeartbeats 2000000 in
theorem half_calls (a ga ca : Nat) (w : World) (hA : Dr w ga ca (dg a)) (sa : (dg a).length ≤ 1000) :
    Calls Tryz.prog 96 #[.slice (some ⟨ga, 0, none⟩) (dg a).length ca, .int .i64 130] w (Gives w (a / P130)) := by
  have hra := hA.room
  have hma := hA.max
  unfold maxLen at hma
  generalize hla : (dg a).length = la at sa hra
  have HLA := Lib.hid hla
  clear hla
  by_cases h8 : la ≤ 8
  · have i0 : (8 : Int) ≥ la := by omega
    have i1 : (la : Int) ≤ 8 := by omega
    have hv : dg (a / P130) = [] := by
      have := lt_pow_len a
      rw [HLA.out] at this
      have h2 : 65536 ^ la ≤ 65536 ^ 8 := Nat.pow_le_pow_right (by decide) h8
      have h3 : 65536 ^ 8 ≤ P130 := by decide +kernel
      have h4 : a < P130 := Nat.lt_of_lt_of_le this (Nat.le_trans h2 h3)
      rw [Nat.div_eq_of_lt h4, dg_zero]
    have HV := Lib.hid hv
    clear hv
    go_enter Tryz.func96, Tryz.ntmps96
    go_wp2_with fail
    go_ret
    exact ⟨w.heap.size, 0, by rw [HV.out]; rfl, by rw [HV.out]; exact ⟨by simp, by simp, by decide, fun i hi => by simp at hi⟩, (Below.refl _ w).alloc (Nat.le_refl _) _⟩
  · have i1 : ¬ (la : Int) ≤ 8 := by omega
    have i2 : (8 : Int) ≤ la := by omega
    have i3 : 8 ≤ la := by omega
    have hda := dg_digs a
    have e1 : ((la - 8 : Nat) : Int) = (la : Int) - 8 := by omega
    go_enter Tryz.func96, Tryz.ntmps96
    go_wp2_with fail
    clear e1
    generalize hn : la - 8 = n
    have HN := Lib.hid hn
    go_loopw [5, 21] (fun v i wr => ∃ k g cap : Nat, k ≤ n ∧ i = .int .i64 k ∧ v = .slice (some ⟨g, 0, none⟩) k cap ∧ Own wr w.heap.size 3 .i64 g k cap (smallT (a / P130) k) ∧ Below w.heap.size w wr) (fun _ i _ => n - (intOf i).toNat)
    case atStart => exact ⟨0, w.heap.size, 0, by omega, rfl, rfl, Own.made rfl (Nat.le_refl _) (by decide) rfl rfl, (Below.refl _ w).alloc (Nat.le_refl _) _⟩
    case round =>
      obtain ⟨k, g1, cap1, hk, rfl, rfl, hO, hW⟩ := hrel
      have hAr := hA.on hW
      have hd1 := hda (8 + k)
      have hd2 := hda (8 + k + 1)
      have hdig := half_digit a k
      by_cases h1 : k < n
      · have ca0 := hAr.cell (8 + k) (by rw [HLA.out]; omega)
        have cb0 := hAr.cell (8 + k + 1)
        have ez := ix_end (dg a) (8 + k + 1)
        rw [HLA.out] at cb0 ez
        generalize ix (dg a) (8 + k) = x at ca0 hd1 hdig
        generalize ix (dg a) (8 + k + 1) = y at cb0 hd2 hdig ez
        have HDIG := Lib.hid hdig; have EZ := Lib.hid ez; have CB := Lib.hid cb0
        clear hdig ez cb0 hda hAr
        have j1 : (k : Int) < n := by omega
        have j2 : (0 : Int) ≤ (k : Int) + 1 := by omega
        have j4 : (k : Int) < la - 8 := by omega
        by_cases h2 : k + 1 < n
        · have cb : wr.cell? ⟨ga, 8 + (k + 1), none⟩ = some (.int .i64 y) := CB.out (by omega)
          have j3 : (k : Int) + 1 < n := by omega
          go_wp2_with (at_builtin; refine wpList_push rfl (.tmp 41) (.tmp 47) 52 rfl 8 Tryz.underlying52 (by kernel_rfl) rfl (hO.alloc _) ⟨wr.heap.size, 0, none⟩ 1 1 [(x + y * 65536) / 4 % 65536] rfl rfl (cell_one (by simp)) (by omega) (by omega) (by omega) ?_; intro g' cap' wz hO1 hgr hat)
          go_roundw
          case rel => exact ⟨k + 1, g', cap', by omega, by go_num, rfl, by rw [smallT_succ, ← HDIG.out]; exact hO1, (hW.alloc hW.size _).grown hgr (by simp; exact Nat.le_succ_of_le hW.size) (fun q hq => by injection hq with hq; subst hq; exact hO.lt.1)⟩
          case measure => simp [intOf]; omega
        · have j3 : ¬ (k : Int) + 1 < n := by omega
          have zy : y = 0 := EZ.out (by omega)
          have ZY := Lib.hid zy
          clear zy
          go_wp2_with (at_builtin; refine wpList_push rfl (.tmp 41) (.tmp 47) 52 rfl 8 Tryz.underlying52 (by kernel_rfl) rfl (hO.alloc _) ⟨wr.heap.size, 0, none⟩ 1 1 [x / 4 % 65536] rfl rfl (cell_one (by simp)) (by omega) (by omega) (by omega) ?_; intro g' cap' wz hO1 hgr hat)
          go_roundw
          case rel => exact ⟨k + 1, g', cap', by omega, by go_num, rfl, by rw [smallT_succ, ← HDIG.out, ZY.out, Int.zero_mul, Int.add_zero]; exact hO1, (hW.alloc hW.size _).grown hgr (by simp; exact Nat.le_succ_of_le hW.size) (fun q hq => by injection hq with hq; subst hq; exact hO.lt.1)⟩
          case measure => simp [intOf]; omega
      · obtain rfl : k = n := by omega
        have hsum : a / P130 < 65536 ^ k := by
          have e1 := lt_pow_len a
          rw [HLA.out] at e1
          rw [Nat.div_lt_iff_lt_mul (by decide +kernel)]
          refine Nat.lt_of_lt_of_le e1 ?_
          rw [show la = k + 8 by omega, Nat.pow_add]
          exact Nat.mul_le_mul_left _ (by decide +kernel)
        have hts := trim_smallT (a / P130) k hsum
        have HTS := Lib.hid hts
        have hl := hO.len
        have hDr := Dr.of_own hO
        have hdd := smallT_digs (a / P130) k
        generalize smallT (a / P130) k = L at hl hDr hdd HTS
        have j4 : ¬ (k : Int) < la - 8 := by omega
        clear hts hsum hO hda hd1 hd2 hdig hAr
        have HL := Lib.hid hl
        clear hl
        go_wp2_with fail
        refine (HL.out ▸ trim_calls g1 cap1 L wr hDr hdd).mono ?_
        rintro e w' ⟨rfl, rfl, hR⟩
        rw [HTS.out] at hR ⊢
        go_wp2_with fail
        go_ret
        exact ⟨g1, cap1, rfl, hR, hW⟩
end Go.Proofs.YtfoljmpphbhobaaGreatDoor
namespace Go.Proofs.YtfoljmpphbhobaaGreatDoor
open Go.RowKit Go.Spk
set_option linter.unusedVariables false
theorem pv_set (f : Nat → Int) (k : Nat) (v : Int) (n : Nat) (hk : k < n) : pv (fun i => if i = k then v else f i) n = pv f n + (v - f k) * 65536 ^ k := by
  induction n with
  | zero => omega
  | succ n ih =>
    rw [pv, pv]
    by_cases e : k = n
    · subst e
      rw [if_pos rfl, pv_congr (g := f) (fun i hi => if_neg (by omega)), Int.sub_mul]
      omega
    · rw [ih (by omega), if_neg (by omega)]
      omega
theorem nv_set (xs : List Int) (k : Nat) (v : Int) (hk : k < xs.length) : nv (xs.set k v) = nv xs + (v - ix xs k) * 65536 ^ k := by
  unfold nv
  rw [List.length_set, ← pv_set _ _ _ _ hk]
  refine pv_congr fun i hi => ?_
  rw [ix_set _ _ _ _ hk]
theorem digs_set {xs : List Int} {k : Nat} {v : Int} (h : Digs xs) (hk : k < xs.length) (h0 : 0 ≤ v) (h1 : v < 65536) : Digs (xs.set k v) := by
  intro i
  rw [ix_set _ _ _ _ hk]
  split
  · exact ⟨h0, h1⟩
  · exact h i
/-- What the out's number and the carry make together: in row i, behind j digits of b. -/
def mulR (a b i j : Nat) : Int := ((a % 65536 ^ i : Nat) : Int) * b + ix (dg a) i * 65536 ^ i * ((b % 65536 ^ j : Nat) : Int)
theorem mulR_zero (a b i : Nat) : mulR a b i 0 = ((a % 65536 ^ i : Nat) : Int) * b := by simp [mulR, Nat.mod_one]
theorem mod_succ (b j : Nat) : ((b % 65536 ^ (j + 1) : Nat) : Int) = ((b % 65536 ^ j : Nat) : Int) + 65536 ^ j * ix (dg b) j := by
  rw [ix_dg, Nat.pow_succ, Nat.mod_mul]
  simp
theorem mulR_step (a b i j : Nat) : mulR a b i (j + 1) = mulR a b i j + ix (dg a) i * ix (dg b) j * 65536 ^ (i + j) := by
  unfold mulR
  rw [mod_succ, Int.mul_add, Int.pow_add]
  have : ix (dg a) i * 65536 ^ i * (65536 ^ j * ix (dg b) j) = ix (dg a) i * ix (dg b) j * (65536 ^ i * 65536 ^ j) := by
    simp only [Int.mul_assoc, Int.mul_left_comm, Int.mul_comm]
  rw [this]
  omega
theorem mulR_end (a b i j : Nat) (h : (dg b).length ≤ j) : mulR a b i j = ((a % 65536 ^ (i + 1) : Nat) : Int) * b := by
  unfold mulR
  have hb : b < 65536 ^ j := Nat.lt_of_lt_of_le (lt_pow_len b) (Nat.pow_le_pow_right (by decide) h)
  rw [Nat.mod_eq_of_lt hb, mod_succ, Int.add_mul]
  congr 1
  simp only [Int.mul_comm]
/-- One step of a row: o is the digit that stood there. -/
theorem mul_step {L : List Int} {k : Nat} {c R t x : Int} (hk : k < L.length) (hi : nv L + c * 65536 ^ k = R) (hx : x = ix L k + t + c) :
    nv (L.set k (x % 65536)) + x / 65536 * 65536 ^ (k + 1) = R + t * 65536 ^ k := by
  rw [nv_set _ _ _ hk, Int.pow_succ, ← hi]
  generalize (65536 : Int) ^ k = P
  have e : x = x % 65536 + 65536 * (x / 65536) := by omega
  generalize x % 65536 = v at *
  generalize x / 65536 = d at *
  have h2 : v - ix L k + 65536 * d = t + c := by omega
  have h3 : (v - ix L k) * P + d * (P * 65536) = (v - ix L k + 65536 * d) * P := by
    rw [Int.add_mul]
    congr 1
    simp only [Int.mul_comm, Int.mul_left_comm]
  have h4 : (t + c) * P = t * P + c * P := Int.add_mul ..
  rw [h2] at h3
  omega
/-- The carry has come to its end before the row's last digit. -/
theorem mul_room {L : List Int} {k i : Nat} {a b : Nat} {c : Int} (hd : Digs L) (hc : 0 < c) (hi : nv L + c * 65536 ^ k = ((a % 65536 ^ (i + 1) : Nat) : Int) * b) : k < i + 1 + (dg b).length := by
  refine Nat.lt_of_not_le fun hle => ?_
  have h0 := (pv_bd hd L.length).1
  have h1 : a % 65536 ^ (i + 1) < 65536 ^ (i + 1) := Nat.mod_lt _ (pow_pos' _)
  have h2 := lt_pow_len b
  have h3 : a % 65536 ^ (i + 1) * b < 65536 ^ k := by
    refine Nat.lt_of_lt_of_le (Nat.mul_lt_mul'' h1 h2) ?_
    rw [← Nat.pow_add]
    exact Nat.pow_le_pow_right (by decide) hle
  have h4 : ((65536 ^ k : Nat) : Int) = (65536 : Int) ^ k := by simp
  have h6 : ((a % 65536 ^ (i + 1) * b : Nat) : Int) = ((a % 65536 ^ (i + 1) : Nat) : Int) * b := Int.natCast_mul _ _
  rw [← h6, ← h4] at hi
  have h7 : nv L = pv (ix L) L.length := rfl
  rw [← h7] at h0
  generalize a % 65536 ^ (i + 1) * b = T at h3 hi
  generalize 65536 ^ k = P at h3 hi
  have h5 : (P : Int) ≤ c * P := by
    have := Int.mul_le_mul_of_nonneg_right (show (1 : Int) ≤ c by omega) (show (0 : Int) ≤ P by omega)
    omega
  generalize c * (P : Int) = X at *
  omega
end Go.Proofs.YtfoljmpphbhobaaGreatDoor
namespace Go.Proofs.YtfoljmpphbhobaaGreatDoor
open Go.RowKit Go.Spk
set_option linter.unusedVariables false
theorem prod_bd {x y : Int} (x0 : 0 ≤ x) (x1 : x < 65536) (y0 : 0 ≤ y) (y1 : y < 65536) : 0 ≤ x * y ∧ x * y ≤ 4294836225 := by
  refine ⟨Int.mul_nonneg x0 y0, ?_⟩
  have h1 := Int.mul_le_mul_of_nonneg_right (show x ≤ 65535 by omega) y0
  omega
set_option maxRecDepth 100000 in
set_option maxHeartbeats 2000000 in
theorem mul_calls (a b ga ca gb cb : Nat) (w : World) (hA : Dr w ga ca (dg a)) (hB : Dr w gb cb (dg b)) (sa : (dg a).length ≤ 1000) (sb : (dg b).length ≤ 1000) :
    Calls Tryz.prog 92 #[.slice (some ⟨ga, 0, none⟩) (dg a).length ca, .slice (some ⟨gb, 0, none⟩) (dg b).length cb] w (Gives w (a * b)) := by
  have hda := dg_digs a
  have hdb := dg_digs b
  generalize hla : (dg a).length = la at sa
  generalize hlb : (dg b).length = lb at sb
  have HLA := Lib.hid hla; have HLB := Lib.hid hlb
  clear hla hlb
  obtain ⟨i, f1, f2, f3, f4⟩ := info_of (P := Tryz.prog) (e := 3) (k := .i64) (bytes := 8) (by kernel_rfl)
  obtain ⟨w1, hrun, hO, hg⟩ := run_make_full (P := Tryz.prog) w w.heap.size 52 3 i (.int .i64 0) 1 Tryz.underlying52 f1 f2 f3 .i64 .i64 (la + lb + 1) (by rw [f4]; omega) (by unfold maxLen; omega) (Nat.le_refl _)
  rw [show ((la + lb + 1 : Nat) : Int) = (la : Int) + lb + 1 by omega] at hrun
  have hO' : Own w1 w.heap.size 3 .i64 w.heap.size (la + lb + 1) (la + lb + 1) (List.replicate (la + lb + 1) 0) := by
    rw [show (Value.int .i64 0).cells = #[Value.int .i64 0] from rfl, toList_madeCells_one, Nat.mul_one, ← List.map_replicate] at hO
    exact hO
  have HO := Lib.hid hO'
  have hB1 := (Below.refl w.heap.size w).grown hg (Nat.le_refl _) (fun q hq => by cases hq)
  have HB1 := Lib.hid hB1
  clear hO hO' hg hB1 f1 f2 f3 f4
  go_enter Tryz.func92, Tryz.ntmps92
  go_wp2_with fail
  generalize hN : la + lb + 1 = N at HO
  have HN := Lib.hid hN
  clear hN hrun
  have hz0 : nv (List.replicate N 0) = ((a % 65536 ^ 0 : Nat) : Int) * b := by
    have h : nv (List.replicate N 0) = 0 := by
      unfold nv
      exact pv_zero (m := 0) (Nat.zero_le _) fun i _ _ => by unfold ix; simp [List.getD, List.getElem?_replicate]; split <;> rfl
    rw [h]; simp [Nat.mod_one]
  have hd0 : Digs (List.replicate N 0) := fun i => by
    have : ix (List.replicate N 0) i = 0 := by unfold ix; simp [List.getD, List.getElem?_replicate]; split <;> rfl
    rw [this]; omega
  go_loopw [21] (fun it wr => ∃ (i : Nat) (L : List Int), i ≤ la ∧ it = .int .i64 i ∧ Own wr w.heap.size 3 .i64 w.heap.size N N L ∧ Digs L ∧ nv L = ((a % 65536 ^ i : Nat) : Int) * b ∧ Below w.heap.size w wr) (fun i _ => la - (intOf i).toNat)
  case atStart => exact ⟨0, _, by omega, rfl, HO.out, hd0, hz0, HB1.out⟩
  case round =>
    clear hz0 hd0 HO HB1
    obtain ⟨i, L0, hi, rfl, hO0, hdL0, hv0, hW0⟩ := hrel
    by_cases h1 : i < la
    · have i1 : (i : Int) < la := by omega
      have hx := hda i
      obtain ⟨x0, x1⟩ := hx
      have hv1 : nv L0 + 0 * 65536 ^ (i + 0) = mulR a b i 0 := by rw [mulR_zero, hv0]; simp
      have HV1 := Lib.hid hv1
      clear hv1 hv0
      go_wp2_with fail
      go_loopw [7, 26] (fun c jt wr => ∃ (j : Nat) (cc : Int) (L : List Int), j ≤ lb ∧ jt = .int .i64 j ∧ c = .int .i64 cc ∧ 0 ≤ cc ∧ cc < 65536 ∧ Own wr w.heap.size 3 .i64 w.heap.size N N L ∧ Digs L ∧ nv L + cc * 65536 ^ (i + j) = mulR a b i j ∧ Below w.heap.size w wr) (fun _ j _ => lb - (intOf j).toNat)
      case atStart => exact ⟨0, 0, L0, by omega, rfl, rfl, by omega, by omega, hO0, hdL0, HV1.out, hW0⟩
      case round =>
        clear HV1 hO0 hdL0 hW0
        obtain ⟨j, c, L, hj, rfl, rfl, c0, c1, hO, hdL, hv, hW⟩ := hrel
        have HDL := Lib.hid hdL; have HV := Lib.hid hv
        have hll := hO.len
        have HLL := Lib.hid hll
        clear hdL hv hll
        by_cases h2 : j < lb
        · have j1 : (j : Int) < lb := by omega
          have hy := hdb j
          obtain ⟨y0, y1⟩ := hy
          have ca0 := (hA.on hW).cell i (by rw [HLA.out]; exact h1)
          have cb0 := (hB.on hW).cell j (by rw [HLB.out]; exact h2)
          have hNij : i + j < N := by have := HN.out; omega
          have co := hO.cell (i + j) hNij
          have fo := hO.frozen (i + j)
          have ho := HDL.out (i + j)
          obtain ⟨o0, o1⟩ := ho
          have n1 : (i : Int) + j < N := by omega
          have hst := fun t x hx => mul_step (L := L) (k := i + j) (t := t) (x := x) (by rw [HLL.out]; exact hNij) HV.out hx
          have hst2 := hst (ix (dg a) i * ix (dg b) j) _ rfl
          rw [← mulR_step] at hst2
          have HST := Lib.hid hst2
          clear hst hst2
          obtain ⟨o, hoe⟩ : ∃ o, o = ix L (i + j) := ⟨_, rfl⟩
          obtain ⟨x, hxe⟩ : ∃ x, x = ix (dg a) i := ⟨_, rfl⟩
          obtain ⟨y, hye⟩ : ∃ y, y = ix (dg b) j := ⟨_, rfl⟩
          rw [← hoe] at co o0 o1 HST
          rw [← hxe] at ca0 x0 x1 HST
          rw [← hye] at cb0 y0 y1 HST
          clear hoe hxe hye
          have hm := prod_bd x0 x1 y0 y1
          obtain ⟨m0, m1⟩ := hm
          have k1 : IntKind.i64.wrap (x * y) = x * y := IntWalk.i64_in _ (by omega)
          have k2 : IntKind.i64.wrap (o + x * y) = o + x * y := IntWalk.i64_in _ (by omega)
          have k3 : IntKind.i64.wrap (o + x * y + c) = o + x * y + c := IntWalk.i64_in _ (by omega)
          have nn : 0 ≤ o + x * y + c := by omega
          go_wp2_with fail
          go_quiet (fail)
          go_wp2_with fail
          go_roundw
          case rel =>
            refine ⟨j + 1, (o + x * y + c) / 65536, L.set (i + j) ((o + x * y + c) % 65536), by omega, by go_num, rfl, by omega, by omega, (hO.drewN _).set _ _, digs_set HDL.out (by rw [HLL.out]; exact hNij) (by omega) (by omega), HST.out, ?_⟩
            exact (below_drawnN hW _).grown (only_stored (g := w.heap.size) _ rfl _) hW.size (fun q hq => by injection hq with hq; omega)
          case measure => simp [intOf]; omega
        · obtain rfl : j = lb := by omega
          have hv2 := HV.out
          rw [mulR_end a b i j (by rw [HLB.out]; exact Nat.le_refl _)] at hv2
          have HV2 := Lib.hid hv2
          clear hv2
          go_wp2_with fail
          go_loopw [7, 10] (fun c kt wr => ∃ (k : Nat) (cc : Int) (L : List Int), k ≤ N ∧ kt = .int .i64 k ∧ c = .int .i64 cc ∧ 0 ≤ cc ∧ cc < 65536 ∧ Own wr w.heap.size 3 .i64 w.heap.size N N L ∧ Digs L ∧ nv L + cc * 65536 ^ k = ((a % 65536 ^ (i + 1) : Nat) : Int) * b ∧ Below w.heap.size w wr) (fun _ k _ => N - (intOf k).toNat)
          case atStart => exact ⟨i + j, c, L, by have := HN.out; omega, by go_num, rfl, c0, c1, hO, HDL.out, HV2.out, hW⟩
          case round =>
            clear HV2 HV HDL HLL hO hW c0 c1
            obtain ⟨k, c', L', hk, rfl, rfl, c0, c1, hO, hdL, hv, hW⟩ := hrel
            have HDL := Lib.hid hdL; have HV := Lib.hid hv
            have hll := hO.len
            have HLL := Lib.hid hll
            clear hdL hv hll
            by_cases h3 : 0 < c'
            · have hkN := mul_room HDL.out h3 HV.out
              rw [HLB.out] at hkN
              have hkN2 : k < N := by have := HN.out; omega
              have co := hO.cell k hkN2
              have fo := hO.frozen k
              have ho := HDL.out k
              obtain ⟨o0, o1⟩ := ho
              have hst := mul_step (L := L') (k := k) (t := 0) (x := ix L' k + c') (by rw [HLL.out]; exact hkN2) HV.out (by omega)
              rw [Int.zero_mul, Int.add_zero] at hst
              have HST := Lib.hid hst
              clear hst
              obtain ⟨o, hoe⟩ : ∃ o, o = ix L' k := ⟨_, rfl⟩
              rw [← hoe] at co o0 o1 HST
              clear hoe
              have n1 : (k : Int) < N := by omega
              have nn : 0 ≤ o + c' := by omega
              go_wp2_with fail
              go_roundw
              case rel =>
                refine ⟨k + 1, (o + c') / 65536, L'.set k ((o + c') % 65536), by omega, by go_num, rfl, by omega, by omega, hO.set _ _, digs_set HDL.out (by rw [HLL.out]; exact hkN2) (by omega) (by omega), HST.out, ?_⟩
                exact hW.grown (only_stored (g := w.heap.size) _ rfl _) hW.size (fun q hq => by injection hq with hq; omega)
              case measure => simp [intOf]; omega
            · obtain rfl : c' = 0 := by omega
              have hv3 := HV.out
              rw [Int.zero_mul, Int.add_zero] at hv3
              go_wp2_with fail
              go_roundw
              case rel => exact ⟨i + 1, L', by omega, by go_num, hO, HDL.out, hv3, hW⟩
              case measure => simp [intOf]; omega
    · obtain rfl : i = la := by omega
      have ha : a < 65536 ^ i := by have := lt_pow_len a; rwa [HLA.out] at this
      rw [Nat.mod_eq_of_lt ha] at hv0
      have hts : (nv L0).toNat = a * b := by rw [hv0]; exact_mod_cast Int.toNat_natCast (a * b)
      have HTS := Lib.hid hts
      have hl := hO0.len
      have hDr := Dr.of_own hO0
      have HL := Lib.hid hl
      clear hts hv0 hl ha hda hdb
      go_wp2_with fail
      refine (HL.out ▸ trim_calls w.heap.size N L0 wr hDr hdL0).mono ?_
      rintro e w' ⟨rfl, rfl, hR⟩
      rw [HTS.out] at hR ⊢
      go_wp2_with fail
      go_ret
      exact ⟨w.heap.size, N, rfl, hR, hW0⟩
end Go.Proofs.YtfoljmpphbhobaaGreatDoor
namespace Go.Proofs.YtfoljmpphbhobaaGreatDoor
open Go.RowKit Go.Spk
set_option linter.unusedVariables false
theorem len_mono {m n : Nat} (h : m ≤ n) : (dg m).length ≤ (dg n).length := dg_len (Nat.lt_of_le_of_lt h (lt_pow_len n))
set_option maxRecDepth 100000 in
set_option maxHeartbeats 2000000 in
theorem low_calls (a ga ca : Nat) (w : World) (hA : Dr w ga ca (dg a)) (sa : (dg a).length ≤ 900) :
    Calls Tryz.prog 95 #[.slice (some ⟨ga, 0, none⟩) (dg a).length ca, .int .i64 130] w (Gives w (a % P130)) := by
  have SA := Lib.hid sa
  clear sa
  go_enter Tryz.func95, Tryz.ntmps95
  go_wp2_with fail
  refine (half_calls a ga ca w hA (by have := SA.out; omega)).mono ?_
  rintro e w1 ⟨g1, c1, rfl, hD1, hB1⟩
  have HD1 := Lib.hid hD1; have HB1 := Lib.hid hB1
  clear hD1 hB1
  go_wp2_with fail
  refine (power_calls w1).mono ?_
  rintro e w2 ⟨g2, c2, rfl, hD2, hB2⟩
  have HD2 := Lib.hid hD2; have HB2 := Lib.hid hB2
  clear hD2 hB2
  have s1 : (dg (a / P130)).length ≤ 1000 := by have := len_mono (Nat.div_le_self a P130); have := SA.out; omega
  have s2 : (dg P130).length ≤ 1000 := by rw [dg_p130]; decide
  have S1 := Lib.hid s1; have S2 := Lib.hid s2
  clear s1 s2
  go_wp2_with fail
  refine (mul_calls (a / P130) P130 g1 c1 g2 c2 w2 (HD1.out.on HB2.out) HD2.out S1.out S2.out).mono ?_
  rintro e w3 ⟨g3, c3, rfl, hD3, hB3⟩
  have HD3 := Lib.hid hD3; have HB3 := Lib.hid hB3
  clear hD3 hB3
  have hle := Nat.div_mul_le_self a P130
  have hB13 : Below w.heap.size w w3 := HB1.out.trans ((HB2.out.mono HB1.out.size).trans (HB3.out.mono (Nat.le_trans HB1.out.size HB2.out.size)))
  have HLE := Lib.hid hle; have HB13 := Lib.hid hB13
  clear hle hB13
  go_wp2_with fail
  refine (sub_calls a (a / P130 * P130) ga ca g3 c3 HLE.out w3 (hA.on HB13.out) HD3.out (by have := SA.out; omega) (by have := len_mono HLE.out; have := SA.out; omega)).mono ?_
  rintro e w4 ⟨g4, c4, rfl, hD4, hB4⟩
  have hm : a - a / P130 * P130 = a % P130 := by
    have := Nat.div_add_mod a P130
    rw [Nat.mul_comm] at this
    omega
  rw [hm] at hD4 ⊢
  have HD4 := Lib.hid hD4; have HB4 := Lib.hid hB4
  clear hD4 hB4 hm
  go_wp2_with fail
  go_ret
  exact ⟨g4, c4, rfl, HD4.out, HB13.out.trans (HB4.out.mono HB13.out.size)⟩
end Go.Proofs.YtfoljmpphbhobaaGreatDoor
namespace Go.Proofs.YtfoljmpphbhobaaGreatDoor
open Go.RowKit Go.Spk
set_option linter.unusedVariables false
/-- The prime. -/
def PP : Nat := P130 - 5
theorem pp_val : PP + 5 = P130 := by decide +kernel
theorem pp_pos : 5 < PP := by decide +kernel
/-- One reduction: what stands above 2^130 comes back five times. -/
def redN (v : Nat) : Nat := v % P130 + v / P130 * 5
theorem redN_lt {v : Nat} (h : P130 ≤ v) : redN v < v := by
  unfold redN
  have h1 := Nat.div_add_mod v P130
  have h2 := Nat.div_pos h (show 0 < P130 by decide +kernel)
  have h3 := Nat.mul_le_mul_right (v / P130) (show 6 ≤ P130 by decide +kernel)
  omega
theorem redN_mod (v : Nat) : redN v % PP = v % PP := by
  unfold redN
  have h1 := Nat.div_add_mod v P130
  have e : v = (v % P130 + v / P130 * 5) + PP * (v / P130) := by
    rw [← pp_val] at h1 ⊢
    rw [Nat.add_mul] at h1
    omega
  conv => rhs; rw [e]
  rw [Nat.add_mul_mod_self_left]
/-- The last step: at most once less the prime. -/
theorem last_mod {v : Nat} (h : v < P130) : (if PP ≤ v then v - PP else v) = v % PP := by
  have hv := pp_val
  have hp := pp_pos
  split
  · next hle => rw [Nat.mod_eq_sub_mod hle, Nat.mod_eq_of_lt (by omega)]
  · next hlt => rw [Nat.mod_eq_of_lt (by omega)]
theorem cmpN_ge (a b : Nat) : 0 ≤ cmpN a b ↔ b ≤ a := by
  unfold cmpN
  split
  · constructor <;> intro h <;> omega
  · split <;> constructor <;> intro h <;> omega
/-- The k-th part of 16 bytes, and the byte 1 behind it. -/
def partI (ws : List Int) (k : Nat) : List Int := (ws.drop (16 * k)).take 16 ++ [1]
/-- What is summed up behind k parts. -/
def accN (R : Nat) (ws : List Int) : Nat → Nat
  | 0 => 0
  | k + 1 => (accN R ws k + (nb (partI ws k)).toNat) * R % PP
theorem accN_lt (R : Nat) (ws : List Int) (k : Nat) : accN R ws k < PP := by
  cases k with
  | zero => exact Nat.lt_trans (show 0 < 5 by decide) pp_pos
  | succ k => exact Nat.mod_lt _ (Nat.lt_trans (by decide) pp_pos)
theorem nb_bd (bs : List Int) (h : ∀ b ∈ bs, 0 ≤ b ∧ b ≤ 255) : 0 ≤ nb bs ∧ nb bs < 256 ^ bs.length := by
  induction bs with
  | nil => simp [nb]
  | cons b bs ih =>
    have h0 := h b (by simp)
    have h1 := ih (fun x hx => h x (by simp [hx]))
    simp only [nb, List.length_cons, Int.pow_succ]
    generalize (256 : Int) ^ bs.length = P at *
    omega
theorem len_add (a b : Nat) : (dg (a + b)).length ≤ max (dg a).length (dg b).length + 1 := by
  have h1 := lt_pow_len a
  have h2 := lt_pow_len b
  refine dg_len ?_
  have e1 : 65536 ^ (dg a).length ≤ 65536 ^ max (dg a).length (dg b).length := Nat.pow_le_pow_right (by decide) (by omega)
  have e2 : 65536 ^ (dg b).length ≤ 65536 ^ max (dg a).length (dg b).length := Nat.pow_le_pow_right (by decide) (by omega)
  rw [Nat.pow_succ]
  generalize 65536 ^ max (dg a).length (dg b).length = P at *
  omega
theorem len_mul (a b : Nat) : (dg (a * b)).length ≤ (dg a).length + (dg b).length := by
  refine dg_len ?_
  rw [Nat.pow_add]
  exact Nat.mul_lt_mul'' (lt_pow_len a) (lt_pow_len b)
end Go.Proofs.YtfoljmpphbhobaaGreatDoor
namespace Go.Proofs.YtfoljmpphbhobaaGreatDoor
open Go.RowKit Go.Spk
set_option linter.unusedVariables false
/-- The first n of the places qs of a list, each turned by f. -/
def sets (f : Int → Int) (qs : List Nat) (ws : List Int) : Nat → List Int
  | 0 => ws
  | n + 1 => (sets f qs ws n).set (qs.getD n 0) (f (ix (sets f qs ws n) (qs.getD n 0)))
theorem sets_length (f : Int → Int) (qs : List Nat) (ws : List Int) (n : Nat) : (sets f qs ws n).length = ws.length := by
  induction n with
  | zero => rfl
  | succ n ih => simp [sets, ih]
theorem sets_u8 (f : Int → Int) (hf : ∀ x, 0 ≤ x → x ≤ 255 → 0 ≤ f x ∧ f x ≤ 255) (qs : List Nat) (ws : List Int) (hw : U8s ws) (n : Nat) : U8s (sets f qs ws n) := by
  induction n with
  | zero => exact hw
  | succ n ih =>
    intro i
    unfold sets
    by_cases h : qs.getD n 0 < (sets f qs ws n).length
    · rw [ix_set _ _ _ _ h]
      split
      · exact hf _ (ih _).1 (ih _).2
      · exact ih i
    · rw [List.set_eq_of_length_le (by omega)]; exact ih i
def qsA : List Nat := [3, 7, 11, 15]
def qsB : List Nat := [4, 8, 12]
theorem qsA_at (n : Nat) (h : n < 4) : qsA.getD n 0 < 16 ∧ ix [3, 7, 11, 15] n = ((qsA.getD n 0 : Nat) : Int) := by
  revert n; decide
theorem qsB_at (n : Nat) (h : n < 3) : qsB.getD n 0 < 16 ∧ ix [4, 8, 12] n = ((qsB.getD n 0 : Nat) : Int) := by
  revert n; decide
/-- The key's first half, some of its bits cleared, as a number; a text's sum. -/
def clampI (ks : List Int) : List Int := sets (fun x => x / 4 * 4) qsB (sets (fun x => x % 16) qsA (ks.take 16) 4) 3
def clampN (ks : List Int) : Nat := (nb (clampI ks)).toNat
def polyN (ks ws : List Int) : Nat := accN (clampN ks) ws ((ws.length + 15) / 16) + (nb (ks.drop 16)).toNat
def polyI (ks ws : List Int) : List Int := bytesN (polyN ks ws) 16
theorem sets_append (f : Int → Int) (qs : List Nat) (a b : List Int) (n : Nat) (h : ∀ i, i < n → qs.getD i 0 < a.length) : sets f qs (a ++ b) n = sets f qs a n ++ b := by
  induction n with
  | zero => rfl
  | succ n ih =>
    have hl : qs.getD n 0 < (sets f qs a n).length := by rw [sets_length]; exact h n (by omega)
    rw [sets, ih (fun i hi => h i (by omega)), ix_append_left _ _ _ hl, List.set_append_left _ _ hl]
    rfl
theorem clamp_take (a b : List Int) (h : a.length = 16) : (sets (fun x => x / 4 * 4) qsB (sets (fun x => x % 16) qsA (a ++ b) 4) 3).take 16 = sets (fun x => x / 4 * 4) qsB (sets (fun x => x % 16) qsA a 4) 3 := by
  have e := sets_length (fun x => x / 4 * 4) qsB (sets (fun x => x % 16) qsA a 4) 3
  have e2 := sets_length (fun x => x % 16) qsA a 4
  rw [sets_append _ qsA a b 4 (fun i hi => by rw [h]; exact (qsA_at i hi).1), sets_append _ qsB _ b 3 (fun i hi => by rw [e2, h]; exact (qsB_at i hi).1)]
  rw [List.take_left' (by rw [e, e2, h])]
theorem run_one (W : World) (b : Int) : (convert 33 9 (.slice (some ⟨W.heap.size, 0, none⟩) 1 1)).run Tryz.prog (W.alloc (.cells #[.int .u8 b] 5)) = .ok (.string (strOfNums [b])) (W.alloc (.cells #[.int .u8 b] 5)) :=
  run_convert_bytes_arg (P := Tryz.prog) _ 33 5 Tryz.underlying33 Tryz.underlying5 W.heap.size 0 1 1 [b] rfl (fun q hq => by
    obtain rfl : q = 0 := by omega
    have h : Whole (W.alloc (.cells #[.int .u8 b] 5)) W.heap.size 5 #[.int .u8 b] := Whole.made W _ _
    rw [h.at_]; rfl) 9 Tryz.underlying9
/-- What Sum's rounds keep. -/
def Kp (w : World) (g1 c1 R g4 c4 : Nat) (W : World) : Prop := Below w.heap.size w W ∧ Dr W g1 c1 (dg R) ∧ Dr W g4 c4 (dg PP)
theorem Kp.on {w : World} {g1 c1 R g4 c4 : Nat} {W W' : World} (h : Kp w g1 c1 R g4 c4 W) (hb : Below W.heap.size W W') : Kp w g1 c1 R g4 c4 W' :=
  ⟨h.1.trans (hb.mono h.1.size), h.2.1.on hb, h.2.2.on hb⟩
theorem below_alloc_of {w w1 : World} (o : Obj) (h : Below (w.alloc o).heap.size (w.alloc o) w1) : Below w.heap.size w w1 :=
  ((Below.refl _ w).alloc (Nat.le_refl _) o).trans (h.mono (by simp))
theorem below_drew_of {w w1 : World} (m : Nat) (h : Below (w.drewN m).heap.size (w.drewN m) w1) : Below w.heap.size w w1 :=
  (below_drawnN (Below.refl _ w) m).trans h
theorem bI_one : bI (strOfNums [1]) = [1] := bI_str (by decide)
theorem cat_one (pt : ByteArray) : bI (pt ++ strOfNums [1]) = bI pt ++ [1] := by simp [bI, strOfNums]
set_option maxRecDepth 100000 in
set_option maxHeartbeats 2000000 in
theorem rsum_calls (key s : ByteArray) (hk : key.size = 32) (hs : s.size ≤ 100000000) (w : World) :
    Calls Tryz.prog 71 #[.string key, .string s] w fun e w' => e = .returned (.string (strOfNums (polyI (bI key) (bI s)))) ∧ Below w.heap.size w w' := by
  have HK := Lib.hid hk
  obtain ⟨k1, hk1⟩ : ∃ k1, k1 = key.extract 0 16 := ⟨_, rfl⟩
  have hk1s : k1.size = 16 := by rw [hk1]; simp; omega
  have hcv := fun wx : World => run_bytes_of_string (P := Tryz.prog) wx 9 33 5 k1 Tryz.underlying9 Tryz.underlying33 Tryz.underlying5
  have hks : (16 : Int) ≤ key.size := by omega
  have HK1 := Lib.hid hk1
  have hke := hk1.symm
  clear hk1
  go_enter Tryz.func71, Tryz.ntmps71
  go_wp2_with fail
  have hcap := grownCap_ge w 16 0 5
  generalize grownCap w 16 0 5 = c at hcap ⊢
  obtain ⟨ws, hws⟩ : ∃ ws, ws = bI k1 ++ List.replicate (c - k1.size) 0 := ⟨_, rfl⟩
  refine name_wp (fun W => Below w.heap.size w W ∧ (∃ m, Bys W w.heap.size 5 m ws) ∧ Whole W (w.heap.size + 1) 3 (rowI .i64 [3, 7, 11, 15])) ?_ ?_
  · refine ⟨by go_grown, ?_, ?_⟩
    · rw [hws]; exact ⟨_, Bys.alloc (Bys.made rfl k1 c _) _⟩
    · exact Whole.new (by simp) rfl
  intro W0 ⟨hB0, ⟨m, ho0⟩, hq0⟩
  have hlw : ws.length = c := by rw [hws, List.length_append, bI_length, List.length_replicate]; omega
  have HW := Lib.hid hws; have HLW := Lib.hid hlw
  clear hws hlw hcv
  have hu0 : U8s ws := by
    rw [HW.out]
    refine U8s_of_mem fun b hb => ?_
    rcases List.mem_append.1 hb with h | h
    · obtain ⟨i, hi, rfl⟩ := List.getElem_of_mem h
      have := U8s_bI k1 i
      unfold ix at this
      simp only [List.getD, List.getElem?_eq_getElem hi, Option.getD_some] at this
      exact this
    · rw [(List.mem_replicate.1 h).2]; omega
  have HU0 := Lib.hid hu0
  clear hu0
  go_loopw [20] (fun i wr => ∃ n : Nat, n ≤ 4 ∧ i = .int .i64 n ∧ W0.grownBy wr (some w.heap.size) ∧ Bys wr w.heap.size 5 m (sets (fun x => x % 16) qsA ws n)) (fun i _ => 4 - (intOf i).toNat)
  case atStart => exact ⟨0, by omega, rfl, World.grownBy.refl _ _, ho0⟩
  case round =>
    obtain ⟨n, hn, rfl, hG, hY⟩ := hrel
    by_cases h1 : n < 4
    · have i1 : (n : Int) < 4 := by omega
      obtain ⟨q1, q2⟩ := qsA_at n h1
      have cq := (hq0.only hG (ne_some (by omega))).int n h1
      rw [q2] at cq
      have hu := sets_u8 (fun x => x % 16) (fun x h0 h1 => by omega) qsA ws HU0.out n
      have hl := sets_length (fun x => x % 16) qsA ws n
      have hset : sets (fun x => x % 16) qsA ws (n + 1) = (sets (fun x => x % 16) qsA ws n).set (qsA.getD n 0) (ix (sets (fun x => x % 16) qsA ws n) (qsA.getD n 0) % 16) := rfl
      have HSET := Lib.hid hset
      generalize qsA.getD n 0 = q at *
      generalize sets (fun x => x % 16) qsA ws n = V at *
      have hV := hu q
      obtain ⟨v0, v1⟩ := hV
      have cv := hY.cell q (by rw [hl, HLW.out]; omega)
      have fv := hY.frozen q (by rw [hl, HLW.out]; omega)
      have n1 : (q : Int) < 16 := by omega
      clear hset hu hl q2
      go_wp2_with fail
      go_roundw
      case rel => exact ⟨n + 1, by omega, by go_num, only_trans hG (only_stored _ rfl _), by rw [HSET.out]; exact hY.set q _⟩
      case measure => simp [intOf]; omega
    · obtain rfl : n = 4 := by omega
      rw [show ((4 : Nat) : Int) = 4 from rfl]
      have hu4 := sets_u8 (fun x => x % 16) (fun x h0 h1 => by omega) qsA ws HU0.out 4
      have hl4 := sets_length (fun x => x % 16) qsA ws 4
      rw [HLW.out] at hl4
      have hB4 := hB0.grown hG hB0.size (fun q hq => by injection hq with hq; omega)
      obtain ⟨V4, hV4⟩ : ∃ V, V = sets (fun x => x % 16) qsA ws 4 := ⟨_, rfl⟩
      rw [← hV4] at hY hu4 hl4
      have HV4 := Lib.hid hV4; have HU4 := Lib.hid hu4; have HL4 := Lib.hid hl4
      clear hq0 hG ho0 hB0 hV4 hu4 hl4
      go_wp2_with fail
      refine name_wp (fun W => Below w.heap.size w W ∧ Bys W w.heap.size 5 m V4 ∧ Whole W wr.heap.size 3 (rowI .i64 [4, 8, 12])) ⟨hB4.alloc hB4.size _, hY.alloc _, Whole.new rfl rfl⟩ ?_
      have hgq : w.heap.size < wr.heap.size := hY.inside
      generalize wr.heap.size = gq at hgq ⊢
      clear hY hB4
      intro W5 ⟨hB5, hY5, hq5⟩
      go_loopw [35] (fun i wr => ∃ n : Nat, n ≤ 3 ∧ i = .int .i64 n ∧ W5.grownBy wr (some w.heap.size) ∧ Bys wr w.heap.size 5 m (sets (fun x => x / 4 * 4) qsB V4 n)) (fun i _ => 3 - (intOf i).toNat)
      case atStart => exact ⟨0, by omega, rfl, World.grownBy.refl _ _, hY5⟩
      case round =>
        obtain ⟨n, hn, rfl, hG, hY⟩ := hrel
        by_cases h1 : n < 3
        · have i1 : (n : Int) < 3 := by omega
          obtain ⟨q1, q2⟩ := qsB_at n h1
          have cq := (hq5.only hG (ne_some (by omega))).int n h1
          rw [q2] at cq
          have hu := sets_u8 (fun x => x / 4 * 4) (fun x h0 h1 => by omega) qsB V4 HU4.out n
          have hl := sets_length (fun x => x / 4 * 4) qsB V4 n
          have hset : sets (fun x => x / 4 * 4) qsB V4 (n + 1) = (sets (fun x => x / 4 * 4) qsB V4 n).set (qsB.getD n 0) (ix (sets (fun x => x / 4 * 4) qsB V4 n) (qsB.getD n 0) / 4 * 4) := rfl
          have HSET := Lib.hid hset
          generalize qsB.getD n 0 = q at *
          generalize sets (fun x => x / 4 * 4) qsB V4 n = V at *
          have hV := hu q
          obtain ⟨v0, v1⟩ := hV
          have cv := hY.cell q (by rw [hl, HL4.out]; omega)
          have fv := hY.frozen q (by rw [hl, HL4.out]; omega)
          have n1 : (q : Int) < 16 := by omega
          clear hset hu hl q2
          go_wp2_with fail
          go_roundw
          case rel => exact ⟨n + 1, by omega, by go_num, only_trans hG (only_stored _ rfl _), by rw [HSET.out]; exact hY.set q _⟩
          case measure => simp [intOf]; omega
        · obtain rfl : n = 3 := by omega
          rw [show ((3 : Nat) : Int) = 3 from rfl]
          have hu7 := sets_u8 (fun x => x / 4 * 4) (fun x h0 h1 => by omega) qsB V4 HU4.out 3
          have hl7 := sets_length (fun x => x / 4 * 4) qsB V4 3
          rw [HL4.out] at hl7
          have hB7 := hB5.grown hG hB5.size (fun q hq => by injection hq with hq; omega)
          obtain ⟨V7, hV7⟩ : ∃ V, V = sets (fun x => x / 4 * 4) qsB V4 3 := ⟨_, rfl⟩
          rw [← hV7] at hY hu7 hl7
          have hl16 : (V7.take 16).length = 16 := by rw [List.length_take, hl7]; omega
          have hcl : ∀ q, q < 16 → wr.cell? ⟨w.heap.size, 0 + q, none⟩ = some (.int .u8 ((V7.take 16).getD q 0)) := fun q hq => by
            rw [Nat.zero_add, hY.cell q (by rw [hl7]; omega)]
            congr 2
            unfold ix; simp [List.getD, hq]
          have hrun := run_convert_bytes_arg (P := Tryz.prog) wr 33 5 Tryz.underlying33 Tryz.underlying5 w.heap.size 0 16 c (V7.take 16) hl16 hcl 9 Tryz.underlying9
          have hm7 : ∀ b ∈ V7.take 16, 0 ≤ b ∧ b ≤ 255 := fun b hb => by
            obtain ⟨i, hi, rfl⟩ := List.getElem_of_mem (List.mem_of_mem_take hb)
            have := hu7 i
            unfold ix at this
            simp only [List.getD, List.getElem?_eq_getElem hi, Option.getD_some] at this
            exact this
          have HV7 := Lib.hid hV7; have HM7 := Lib.hid hm7; have HL16 := Lib.hid hl16; have HB7 := Lib.hid hB7
          clear hV7 hm7 hl16 hcl hu7 hl7 hB7 hG hY hq5 hY5 hB5
          go_wp2_with fail
          refine (of_calls (strOfNums (V7.take 16)) (by rw [← bI_length, bI_str HM7.out, HL16.out]; decide) wr).mono ?_
          rw [bI_str HM7.out]
          rintro e w1 ⟨g1, c1, rfl, hD1, hb1⟩
          obtain ⟨R, hR⟩ : ∃ R, R = (nb (V7.take 16)).toNat := ⟨_, rfl⟩
          rw [← hR] at hD1 ⊢
          have HR := Lib.hid hR
          have HB1 := Lib.hid (HB7.out.trans (hb1.mono HB7.out.size))
          have HD1 := Lib.hid hD1
          clear hR hb1 hD1 hrun
          go_wp2_with fail
          refine (power_calls w1).mono ?_
          rintro e w2 ⟨g2, c2, rfl, hD2, hb2⟩
          have HD2 := Lib.hid hD2; have HB2 := Lib.hid hb2
          clear hD2 hb2
          go_wp2_with fail
          refine (small_calls 5 (by decide) w2).mono ?_
          rintro e w3 ⟨g3, c3, rfl, hD3, hb3⟩
          have HD3 := Lib.hid hD3; have HB3 := Lib.hid hb3
          clear hD3 hb3
          go_wp2_with fail
          have l2 : (dg P130).length ≤ 1000 := by rw [dg_p130]; decide
          have l3 : (dg 5).length ≤ 1000 := Nat.le_trans (dg_len (m := 1) (by decide)) (by decide)
          refine (sub_calls P130 5 g2 c2 g3 c3 (by decide +kernel) w3 (HD2.out.on HB3.out) HD3.out l2 l3).mono ?_
          rw [show P130 - 5 = PP from rfl]
          rintro e w4 ⟨g4, c4, rfl, hD4, hb4⟩
          have HD1' := Lib.hid (((HD1.out.on HB2.out).on HB3.out).on hb4)
          have HB4 := Lib.hid (HB1.out.trans ((HB2.out.mono HB1.out.size).trans ((HB3.out.mono (Nat.le_trans HB1.out.size HB2.out.size)).trans (hb4.mono (Nat.le_trans HB1.out.size (Nat.le_trans HB2.out.size HB3.out.size))))))
          have HD4 := Lib.hid hD4
          clear hb4 hD4 HD1 HB1 HD2 HB2 HD3 HB3 l2 l3
          go_wp2_with fail
          refine name_wp (fun W => Below w.heap.size w W ∧ Dr W g1 c1 (dg R) ∧ Dr W g4 c4 (dg PP) ∧ Dr W w4.heap.size 0 (dg 0))
            ⟨HB4.out.alloc HB4.out.size _, HD1'.out.on ((Below.refl _ w4).alloc (Nat.le_refl _) _), HD4.out.on ((Below.refl _ w4).alloc (Nat.le_refl _) _), by rw [dg_zero]; exact ⟨by simp, by simp, by decide, fun i hi => by simp at hi⟩⟩ ?_
          generalize w4.heap.size = g5
          clear HD1' HB4 HD4
          intro W5 ⟨hB5, hR5, hP5, hZ5⟩
          have hlR : (dg R).length ≤ 9 := by
            rw [HR.out]
            have h := nb_bd _ HM7.out
            rw [HL16.out] at h
            refine dg_len ?_
            have : (256 : Int) ^ 16 = ((256 ^ 16 : Nat) : Int) := by decide +kernel
            have h2 : 256 ^ 16 < 65536 ^ 9 := by decide +kernel
            omega
          have hlP : (dg PP).length ≤ 9 := dg_len (by decide +kernel)
          have HLR := Lib.hid hlR; have HLP := Lib.hid hlP
          clear hlR hlP
          go_loopw [12, 13] (fun v i wr => ∃ k g cap : Nat, 16 * k < s.size + 16 ∧ i = .int .i64 (16 * (k : Int)) ∧ v = .slice (some ⟨g, 0, none⟩) (dg (accN R (bI s) k)).length cap ∧ Dr wr g cap (dg (accN R (bI s) k)) ∧ Dr wr g1 c1 (dg R) ∧ Dr wr g4 c4 (dg PP) ∧ Below w.heap.size w wr) (fun _ i _ => s.size - (intOf i).toNat)
          case atStart => exact ⟨0, g5, 0, by omega, rfl, by rw [show accN R (bI s) 0 = 0 from rfl, dg_zero]; rfl, hZ5, hR5, hP5, hB5⟩
          case round =>
            clear hB5 hR5 hP5 hZ5
            obtain ⟨k, ga, ca, hk, rfl, rfl, hA, hRr, hPr, hB⟩ := hrel
            obtain ⟨A, hAe⟩ : ∃ A, A = accN R (bI s) k := ⟨_, rfl⟩
            rw [← hAe] at hA ⊢
            have HAE := Lib.hid hAe
            have hAlt : A < PP := by rw [hAe]; exact accN_lt _ _ _
            have HALT := Lib.hid hAlt; have HA := Lib.hid hA; have HRR := Lib.hid hRr; have HPR := Lib.hid hPr; have HBB := Lib.hid hB
            clear hAe hAlt hA hRr hPr hB
            by_cases h1 : 16 * k < s.size
            · have hN17 : ∃ N, N = (nb (partI (bI s) k)).toNat ∧ (dg N).length ≤ 9 := by
                refine ⟨_, rfl, dg_len ?_⟩
                have h := nb_bd (partI (bI s) k) (fun b hb => by
                  rcases List.mem_append.1 hb with h | h
                  · exact mem_of_U8s (U8s_bI s) b (List.mem_of_mem_drop (List.mem_of_mem_take h))
                  · simp at h; omega)
                have hl : (partI (bI s) k).length ≤ 17 := by
                  unfold partI
                  rw [List.length_append, List.length_take]
                  have : ([1] : List Int).length = 1 := rfl
                  omega
                have h2 : (256 : Int) ^ (partI (bI s) k).length ≤ ((256 ^ 17 : Nat) : Int) := by
                  have : 256 ^ (partI (bI s) k).length ≤ 256 ^ 17 := Nat.pow_le_pow_right (by decide) hl
                  exact_mod_cast this
                have h3 : 256 ^ 17 < 65536 ^ 9 := by decide +kernel
                omega
              obtain ⟨N, hN, lN⟩ := hN17
              have lA : (dg A).length ≤ 9 := dg_len (Nat.lt_trans HALT.out (by decide +kernel))
              have HN := Lib.hid hN; have LN := Lib.hid lN; have LA := Lib.hid lA
              clear hN lN lA
              have i1 : 16 * (k : Int) < s.size := by omega
              by_cases h2 : 16 * k + 16 ≤ s.size
              case' pos =>
                have i3 : 16 * (k : Int) + 16 ≤ s.size := by omega
                obtain ⟨pt, hpt⟩ : ∃ pt, pt = s.extract (16 * k) (16 * k + 16) := ⟨_, rfl⟩
                have n2 : (16 * (k : Int) + 16).toNat = 16 * k + 16 := by omega
                have hmn : min (16 * (k : Int) + 16) (s.size : Int) = 16 * (k : Int) + 16 := by omega
                have n1 : (16 * (k : Int)).toNat = 16 * k := by omega
                have hpb : bI pt ++ [1] = partI (bI s) k := by
                  rw [hpt, partI]
                  simp [bI]
                have hps : pt.size ≤ 16 := by rw [hpt]; simp; omega
              case' neg =>
                have i3 : ¬ 16 * (k : Int) + 16 ≤ s.size := by omega
                obtain ⟨pt, hpt⟩ : ∃ pt, pt = s.extract (16 * k) s.size := ⟨_, rfl⟩
                have hmn : min (16 * (k : Int) + 16) (s.size : Int) = s.size := by omega
                have n1 : (16 * (k : Int)).toNat = 16 * k := by omega
                have hpb : bI pt ++ [1] = partI (bI s) k := by
                  rw [hpt, partI]
                  simp [bI]
                  omega
                have hps : pt.size ≤ 16 := by rw [hpt]; simp; omega
              all_goals
                have HPT := Lib.hid hpt.symm; have HPB := Lib.hid hpb
                have hpe := hpt.symm
                have hone := run_one
                have s1 : (strOfNums [1]).size = 1 := by rw [← bI_length, bI_one]; rfl
                have hcs : pt.size + (strOfNums [1]).size ≤ 17 := by omega
                have HCS := Lib.hid hcs
                clear hpt hpb hps s1
                go_wp2_with fail
                clear hone hcs
                refine (of_calls (pt ++ strOfNums [1]) (by rw [ByteArray.size_append]; have := HCS.out; omega) _).mono ?_
                rw [cat_one, HPB.out, ← HN.out]
                rintro e w1 ⟨g6, c6, rfl, hD6, hb6⟩
                have hb6' := below_alloc_of _ hb6
                have HK1 := Lib.hid (show Kp w g1 c1 R g4 c4 w1 from Kp.on ⟨HBB.out, HRR.out, HPR.out⟩ hb6')
                have HA1 := Lib.hid (HA.out.on hb6'); have HD6 := Lib.hid hD6
                clear hb6 hb6' hD6 HA HRR HPR HBB
                go_wp2_with fail
                refine (add_calls A N ga ca g6 c6 w1 HA1.out HD6.out (by have := LA.out; omega) (by have := LN.out; omega)).mono ?_
                rintro e w2 ⟨g7, c7, rfl, hD7, hb7⟩
                have HK2 := Lib.hid (HK1.out.on hb7); have HD7 := Lib.hid hD7
                clear hb7 hD7 HA1 HD6 HK1
                go_wp2_with fail
                refine (mul_calls (A + N) R g7 c7 g1 c1 w2 HD7.out HK2.out.2.1 (by have := LA.out; have := LN.out; have := len_add A N; omega) (by have := HLR.out; omega)).mono ?_
                rintro e w3 ⟨g8, c8, rfl, hD8, hb8⟩
                have hlv : (dg ((A + N) * R)).length ≤ 30 := by have := LA.out; have := LN.out; have := HLR.out; have := len_add A N; have := len_mul (A + N) R; omega
                have hacc : (A + N) * R % PP = accN R (bI s) (k + 1) := by rw [accN, ← HAE.out, ← HN.out]
                obtain ⟨v, hv⟩ : ∃ v, v = (A + N) * R := ⟨_, rfl⟩
                rw [← hv] at hD8 hlv hacc ⊢
                have HLV := Lib.hid hlv; have HACC := Lib.hid hacc
                have HK3 := Lib.hid (HK2.out.on hb8); have HD8 := Lib.hid hD8
                clear hv hlv hacc hD8 hb8 HK2 HD7
                go_wp2_with fail
                go_loopg [12] v (fun n a12 wx => ∃ g cc : Nat, a12 = .slice (some ⟨g, 0, none⟩) (dg n).length cc ∧ Dr wx g cc (dg n) ∧ n % PP = v % PP ∧ n ≤ v ∧ Kp w g1 c1 R g4 c4 wx)
                case atStart => exact ⟨g8, c8, rfl, HD8.out, rfl, Nat.le_refl _, HK3.out⟩
                case round =>
                  clear HD8 HK3
                  obtain ⟨g, cc, rfl, hDg, hgm, hgv, hK⟩ := hrel
                  have HD := Lib.hid hDg; have HGM := Lib.hid hgm; have HGV := Lib.hid hgv; have HK := Lib.hid hK
                  clear hDg hgm hgv hK
                  go_wp2_with fail
                  refine (power_calls wr).mono ?_
                  rintro e w4 ⟨g9, c9, rfl, hD9, hb9⟩
                  have HK4 := Lib.hid (HK.out.on hb9); have HD4 := Lib.hid (HD.out.on hb9); have HD9 := Lib.hid hD9
                  clear hb9 hD9 HK HD
                  go_wp2_with fail
                  refine (cmp_calls gk P130 g cc g9 c9 w4 HD4.out HD9.out).mono ?_
                  rintro e w5 ⟨rfl, m5, rfl⟩
                  have HK5 := Lib.hid (HK4.out.on (below_drawnN (Below.refl _ _) m5)); have HD5 := Lib.hid (HD4.out.on (below_drawnN (Below.refl _ _) m5))
                  clear HK4 HD4 HD9
                  generalize w4.drewN m5 = w6 at HK5 HD5 ⊢
                  by_cases hge : P130 ≤ gk
                  · have hc := (cmpN_ge gk P130).2 hge
                    have hlt := redN_lt hge
                    have HLT := Lib.hid hlt
                    have lg : (dg gk).length ≤ 30 := Nat.le_trans (len_mono HGV.out) HLV.out
                    have LG := Lib.hid lg
                    clear hge hlt lg
                    go_wp2_with fail
                    refine (low_calls gk g cc w6 HD5.out (by have := LG.out; omega)).mono ?_
                    rintro e w7 ⟨g10, c10, rfl, hD10, hb10⟩
                    have HK7 := Lib.hid (HK5.out.on hb10); have HD7 := Lib.hid (HD5.out.on hb10); have HD10 := Lib.hid hD10
                    clear hb10 hD10 HK5 HD5
                    go_wp2_with fail
                    refine (half_calls gk g cc w7 HD7.out (by have := LG.out; omega)).mono ?_
                    rintro e w8 ⟨g11, c11, rfl, hD11, hb11⟩
                    have HK8 := Lib.hid (HK7.out.on hb11); have HD10 := Lib.hid (HD10.out.on hb11); have HD11 := Lib.hid hD11
                    clear hb11 hD11 HK7 HD7
                    go_wp2_with fail
                    refine (small_calls 5 (by decide) w8).mono ?_
                    rintro e w9 ⟨g12, c12, rfl, hD12, hb12⟩
                    have HK9 := Lib.hid (HK8.out.on hb12); have HD10 := Lib.hid (HD10.out.on hb12); have HD11 := Lib.hid (HD11.out.on hb12); have HD12 := Lib.hid hD12
                    clear hb12 hD12 HK8
                    have l5 : (dg 5).length ≤ 1 := dg_len (m := 1) (by decide)
                    have lh : (dg (gk / P130)).length ≤ 30 := by have := len_mono (Nat.div_le_self gk P130); have := LG.out; omega
                    have ll : (dg (gk % P130)).length ≤ 30 := by have := len_mono (Nat.mod_le gk P130); have := LG.out; omega
                    have lm : (dg (gk / P130 * 5)).length ≤ 31 := by have := len_mul (gk / P130) 5; omega
                    have L5 := Lib.hid l5; have LH := Lib.hid lh; have LL := Lib.hid ll; have LM := Lib.hid lm
                    clear l5 lh ll lm
                    go_wp2_with fail
                    refine (mul_calls (gk / P130) 5 g11 c11 g12 c12 w9 HD11.out HD12.out (by have := LH.out; omega) (by have := L5.out; omega)).mono ?_
                    rintro e w10 ⟨g13, c13, rfl, hD13, hb13⟩
                    have HK10 := Lib.hid (HK9.out.on hb13); have HD10 := Lib.hid (HD10.out.on hb13); have HD13 := Lib.hid hD13
                    clear hb13 hD13 HK9 HD11 HD12
                    go_wp2_with fail
                    refine (add_calls (gk % P130) (gk / P130 * 5) g10 c10 g13 c13 w10 HD10.out HD13.out (by have := LL.out; omega) (by have := LM.out; omega)).mono ?_
                    rintro e w11 ⟨g14, c14, rfl, hD14, hb14⟩
                    rw [show gk % P130 + gk / P130 * 5 = redN gk from rfl] at hD14 ⊢
                    have HK11 := Lib.hid (HK10.out.on hb14); have HD14 := Lib.hid hD14
                    clear hb14 hD14 HK10 HD10 HD13
                    go_wp2_with fail
                    go_roundg (redN gk)
                    case rel => exact ⟨g14, c14, rfl, HD14.out, by rw [redN_mod]; exact HGM.out, by have := HLT.out; have := HGV.out; omega, HK11.out⟩
                    case measure => exact HLT.out
                  · have hc : ¬ 0 ≤ cmpN gk P130 := fun h => hge ((cmpN_ge gk P130).1 h)
                    have hlt : gk < P130 := by omega
                    have hlast := last_mod hlt
                    rw [HGM.out, HACC.out] at hlast
                    have HLAST := Lib.hid hlast
                    have lg : (dg gk).length ≤ 30 := Nat.le_trans (len_mono HGV.out) HLV.out
                    have LG := Lib.hid lg
                    clear hge hlt lg hlast
                    go_wp2_with fail
                    refine (cmp_calls gk PP g cc g4 c4 w6 HD5.out HK5.out.2.2).mono ?_
                    rintro e w5 ⟨rfl, m5, rfl⟩
                    have HK6 := Lib.hid (HK5.out.on (below_drawnN (Below.refl _ _) m5)); have HD6 := Lib.hid (HD5.out.on (below_drawnN (Below.refl _ _) m5))
                    clear HK5 HD5 hc
                    generalize w6.drewN m5 = w7 at HK6 HD6 ⊢
                    by_cases hge : PP ≤ gk
                    · have hc := (cmpN_ge gk PP).2 hge
                      have hl2 := HLAST.out
                      rw [if_pos hge] at hl2
                      have HL2 := Lib.hid hl2; have HGE := Lib.hid hge
                      clear hl2 hge
                      go_wp2_with fail
                      refine (sub_calls gk PP g cc g4 c4 HGE.out w7 HD6.out HK6.out.2.2 (by have := LG.out; omega) (by have := HLP.out; omega)).mono ?_
                      rw [HL2.out]
                      rintro e w8 ⟨g9', c9', rfl, hD9, hb9⟩
                      have HK8 := Lib.hid (HK6.out.on hb9); have HD9 := Lib.hid hD9
                      clear hb9 hD9 HK6 HD6
                      go_wp2_with fail
                      go_roundw
                      case rel => exact ⟨k + 1, g9', c9', by omega, by go_num, rfl, HD9.out, HK8.out.2.1, HK8.out.2.2, HK8.out.1⟩
                      case measure => simp [intOf]; omega
                    · have hc : ¬ 0 ≤ cmpN gk PP := fun h => hge ((cmpN_ge gk PP).1 h)
                      have hl2 := HLAST.out
                      rw [if_neg hge] at hl2
                      have HL2 := Lib.hid hl2
                      clear hl2 hge
                      go_wp2_with fail
                      go_roundw
                      case rel => exact ⟨k + 1, g, cc, by omega, by go_num, by rw [← HL2.out], by rw [← HL2.out]; exact HD6.out, HK6.out.2.1, HK6.out.2.2, HK6.out.1⟩
                      case measure => simp [intOf]; omega
            · have hkk : k = ((bI s).length + 15) / 16 := by rw [bI_length]; omega
              have hks2 : (16 : Int) ≤ key.size := by have := HK.out; omega
              have hRc : R = clampN (bI key) := by
                rw [HR.out, HV7.out, HV4.out, HW.out, clamp_take _ _ (by rw [bI_length, hk1s])]
                unfold clampN clampI
                rw [show (bI key).take 16 = bI k1 by rw [HK1.out]; simp [bI]]
              have hS : nb (bI (key.extract 16 32)) = nb ((bI key).drop 16) := by
                congr 1
                simp [bI]
                rw [List.take_of_length_le]
                have := HK.out
                simp
                omega
              have hA : A + (nb ((bI key).drop 16)).toNat = polyN (bI key) (bI s) := by
                unfold polyN
                rw [← hkk, ← hRc, ← HAE.out]
              have lA : (dg A).length ≤ 9 := dg_len (Nat.lt_trans HALT.out (by decide +kernel))
              have HS := Lib.hid hS; have HA2 := Lib.hid hA; have LA := Lib.hid lA
              have lS : (dg (nb ((bI key).drop 16)).toNat).length ≤ 9 := by
                have h := nb_bd ((bI key).drop 16) (fun b hb => mem_of_U8s (U8s_bI key) b (List.mem_of_mem_drop hb))
                rw [show ((bI key).drop 16).length = 16 by rw [List.length_drop, bI_length, HK.out]] at h
                refine dg_len ?_
                have : (256 : Int) ^ 16 = ((256 ^ 16 : Nat) : Int) := by decide +kernel
                have h2 : 256 ^ 16 < 65536 ^ 9 := by decide +kernel
                omega
              have LS := Lib.hid lS
              clear hkk hRc hS hA lA lS
              go_wp2_with fail
              refine (of_calls (key.extract 16 32) (by simp; omega) wr).mono ?_
              rw [HS.out]
              rintro e w2 ⟨g2, c2, rfl, hD2, hb2⟩
              have HD2 := Lib.hid hD2; have HB2 := Lib.hid (HBB.out.trans (hb2.mono HBB.out.size)); have HA3 := Lib.hid (HA.out.on hb2)
              clear hD2 hb2
              go_wp2_with fail
              refine (add_calls A _ ga ca g2 c2 w2 HA3.out HD2.out (by have := LA.out; omega) (by have := LS.out; omega)).mono ?_
              rw [HA2.out]
              rintro e w3 ⟨g3, c3, rfl, hD3, hb3⟩
              have HD3 := Lib.hid hD3; have HB3 := Lib.hid (HB2.out.trans (hb3.mono HB2.out.size))
              clear hD3 hb3
              go_wp2_with fail
              refine (bytes_calls _ 16 g3 c3 (by decide) w3 HD3.out).mono ?_
              rw [show bytesN (polyN (bI key) (bI s)) 16 = polyI (bI key) (bI s) from rfl]
              rintro e w4 ⟨rfl, hb4⟩
              have HB4 := Lib.hid (HB3.out.trans (hb4.mono HB3.out.size))
              clear hb4
              go_wp2_with fail
              go_ret
              exact ⟨rfl, HB4.out⟩
end Go.Proofs.YtfoljmpphbhobaaGreatDoor
