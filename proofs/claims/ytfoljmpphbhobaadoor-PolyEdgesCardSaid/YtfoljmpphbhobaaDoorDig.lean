/- Numbers in digits of 16 bits, as plain lists of integers: no program in sight. -/
import Derived.Test.YtfoljmpphbhobaaDoorBase3
namespace Go.Spk
/-- The number whose j-th digit (to the base 65536) is f j: of n digits. -/
def pv (f : Nat → Int) : Nat → Int
  | 0 => 0
  | n + 1 => pv f n + f n * 65536 ^ n
theorem pv_congr {f g : Nat → Int} {n : Nat} (h : ∀ i, i < n → f i = g i) : pv f n = pv g n := by
  induction n with
  | zero => rfl
  | succ n ih => rw [pv, pv, ih (fun i hi => h i (by omega)), h n (by omega)]
theorem pv_zero {f : Nat → Int} {m n : Nat} (hmn : m ≤ n) (h : ∀ i, m ≤ i → i < n → f i = 0) : pv f n = pv f m := by
  induction n with
  | zero => obtain rfl : m = 0 := by omega
            rfl
  | succ n ih =>
    by_cases e : m = n + 1
    · rw [e]
    · rw [pv, h n (by omega) (by omega), ih (by omega) (fun i h1 h2 => h i h1 (by omega))]; simp
/-- The number of a list of digits. -/
def nv (xs : List Int) : Int := pv (ix xs) xs.length
theorem ix_end (xs : List Int) (i : Nat) (h : xs.length ≤ i) : ix xs i = 0 := by
  unfold ix; simp [List.getD, List.getElem?_eq_none h]
theorem nv_pv (xs : List Int) (n : Nat) (h : xs.length ≤ n) : pv (ix xs) n = nv xs := pv_zero h fun i h1 _ => ix_end xs i h1
def Digs (xs : List Int) : Prop := ∀ i, 0 ≤ ix xs i ∧ ix xs i < 65536
theorem pv_bd {f : Nat → Int} (h : ∀ i, 0 ≤ f i ∧ f i < 65536) (n : Nat) : 0 ≤ pv f n ∧ pv f n < 65536 ^ n := by
  induction n with
  | zero => simp [pv]
  | succ n ih =>
    have hp : (0 : Int) < 65536 ^ n := by
      have : (0 : Int) < 65536 := by decide
      exact Int.pow_pos this
    obtain ⟨h0, h1⟩ := h n
    rw [pv, Int.pow_succ]
    generalize (65536 : Int) ^ n = B at *
    have e1 : 0 ≤ f n * B := Int.mul_nonneg h0 (by omega)
    have e2 : f n * B ≤ 65535 * B := Int.mul_le_mul_of_nonneg_right (by omega) (by omega)
    constructor
    · omega
    · rw [Int.mul_comm B 65536]
      omega
/-- The digits of a number, none of them an idle 0 above. -/
def dg (n : Nat) : List Int := if h : n = 0 then [] else ((n % 65536 : Nat) : Int) :: dg (n / 65536)
termination_by n
decreasing_by omega
theorem dg_zero : dg 0 = [] := by unfold dg; simp
theorem dg_pos {n : Nat} (h : n ≠ 0) : dg n = ((n % 65536 : Nat) : Int) :: dg (n / 65536) := by rw [dg]; simp [h]
theorem ix_cons_zero (x : Int) (xs : List Int) : ix (x :: xs) 0 = x := rfl
theorem ix_cons_succ (x : Int) (xs : List Int) (i : Nat) : ix (x :: xs) (i + 1) = ix xs i := rfl
theorem ix_dg (n j : Nat) : ix (dg n) j = ((n / 65536 ^ j % 65536 : Nat) : Int) := by
  induction j generalizing n with
  | zero =>
    by_cases h : n = 0
    · subst h; rw [dg_zero]; rfl
    · rw [dg_pos h, ix_cons_zero]; simp
  | succ j ih =>
    by_cases h : n = 0
    · subst h; rw [dg_zero]; simp [ix]
    · rw [dg_pos h, ix_cons_succ, ih, Nat.div_div_eq_div_mul, Nat.pow_succ, Nat.mul_comm 65536]
theorem dg_digs (n : Nat) : Digs (dg n) := fun i => by rw [ix_dg]; omega
theorem dg_len {n m : Nat} (h : n < 65536 ^ m) : (dg n).length ≤ m := by
  induction m generalizing n with
  | zero => obtain rfl : n = 0 := by simpa using h
            rw [dg_zero]; simp
  | succ m ih =>
    by_cases e : n = 0
    · subst e; rw [dg_zero]; simp
    · rw [dg_pos e, List.length_cons]
      have := ih (n := n / 65536) (by rw [Nat.pow_succ] at h; omega)
      omega
theorem dg_last {n : Nat} (h : dg n ≠ []) : ix (dg n) ((dg n).length - 1) ≠ 0 := by
  induction n using Nat.strongRecOn with
  | ind n ih =>
    by_cases e : n = 0
    · subst e; exact absurd dg_zero h
    · rw [dg_pos e]
      by_cases e2 : dg (n / 65536) = []
      · rw [e2]
        have hz : n / 65536 = 0 := by
          refine Classical.byContradiction fun hne => ?_
          rw [dg_pos hne] at e2; cases e2
        simp only [List.length_singleton, Nat.sub_self]
        rw [ix_cons_zero]
        omega
      · have h1 := ih (n / 65536) (by omega) e2
        have hl : 0 < (dg (n / 65536)).length := List.length_pos_iff.2 e2
        rw [List.length_cons, show (dg (n / 65536)).length + 1 - 1 = ((dg (n / 65536)).length - 1) + 1 by omega, ix_cons_succ]
        exact h1
theorem pv_shift (f : Nat → Int) (n : Nat) : pv f (n + 1) = f 0 + 65536 * pv (fun i => f (i + 1)) n := by
  induction n with
  | zero => simp [pv]
  | succ n ih =>
    rw [pv, ih, pv, Int.mul_add, Int.pow_succ]
    rw [show f (n + 1) * (65536 ^ n * 65536) = 65536 * (f (n + 1) * 65536 ^ n) by rw [← Int.mul_assoc, Int.mul_comm]]
    omega
theorem nv_cons (x : Int) (xs : List Int) : nv (x :: xs) = x + 65536 * nv xs := by
  unfold nv
  rw [List.length_cons, pv_shift]
  rfl
theorem nv_dg (n : Nat) : nv (dg n) = n := by
  induction n using Nat.strongRecOn with
  | ind n ih =>
    by_cases e : n = 0
    · subst e; rw [dg_zero]; rfl
    · rw [dg_pos e, nv_cons, ih _ (by omega)]
      omega
/-- A list of digits, cut behind its last digit that is not 0, is the number's list. -/
theorem dg_of_take : ∀ (xs : List Int) (n : Nat), Digs xs → n ≤ xs.length → (∀ i, n ≤ i → ix xs i = 0) → (n = 0 ∨ ix xs (n - 1) ≠ 0) → xs.take n = dg (nv xs).toNat
  | [], n, _, hn, _, _ => by
    obtain rfl : n = 0 := by simpa using hn
    show [] = _
    rw [show (nv []).toNat = 0 from rfl, dg_zero]
  | x :: xs, 0, hd, hn, hz, hl => by
    have hv : nv (x :: xs) = 0 := by
      unfold nv
      exact pv_zero (m := 0) (Nat.zero_le _) fun i _ _ => hz i (Nat.zero_le _)
    rw [hv]
    show [] = dg 0
    rw [dg_zero]
  | x :: xs, n + 1, hd, hn, hz, hl => by
    have hd' : Digs xs := fun i => by have := hd (i + 1); rwa [ix_cons_succ] at this
    have hx := hd 0
    rw [ix_cons_zero] at hx
    have ih := dg_of_take xs n hd' (by simpa using hn) (fun i hi => by have := hz (i + 1) (by omega); rwa [ix_cons_succ] at this)
      (by
        cases n with
        | zero => exact .inl rfl
        | succ n => refine .inr ?_
                    rcases hl with h | h
                    · omega
                    · exact h)
    have hnv : 0 ≤ nv xs := (pv_bd hd' _).1
    rw [List.take_succ_cons, ih, nv_cons]
    have hne : (x + 65536 * nv xs).toNat ≠ 0 := by
      intro h0
      have hx0 : x = 0 := by omega
      have hv0 : nv xs = 0 := by omega
      rcases hl with h | h
      · omega
      · cases n with
        | zero => exact h hx0
        | succ n =>
          rw [hv0] at ih
          rw [show ((0 : Int)).toNat = 0 from rfl, dg_zero] at ih
          have := congrArg List.length ih
          rw [List.length_take, List.length_nil] at this
          rw [List.length_cons] at hn
          omega
    rw [dg_pos hne]
    congr 1
    · omega
    · congr 1; omega
end Go.Spk
