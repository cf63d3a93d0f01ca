/- What poly's mul reckons: plain laws on numbers. -/
import Derived.Test.YtfoljmpphbhobaaDoorPol0
namespace Go.Proofs.YtfoljmpphbhobaaDoor
open Go.RowKit Go.Spk
set_option linter.unusedVariables false
theorem plus_lo (x y : Nat) : aS (x % 18446744073709551616) (y % 18446744073709551616) 0 = (x + y) % 18446744073709551616 := by unfold aS; omega
theorem plus_hi (x y : Nat) (h : (x + y) / 18446744073709551616 < 18446744073709551616) :
    aS (x / 18446744073709551616) (y / 18446744073709551616) (aC (x % 18446744073709551616) (y % 18446744073709551616) 0) = (x + y) / 18446744073709551616 := by unfold aS aC; omega
/-- The words of a product, from four sums of products. -/
def tW1 (m0 m1 : Nat) : Nat := aS (m1 % 18446744073709551616) (m0 / 18446744073709551616) 0
def cW1 (m0 m1 : Nat) : Nat := aC (m1 % 18446744073709551616) (m0 / 18446744073709551616) 0
def tW2 (m0 m1 m2 : Nat) : Nat := aS (m2 % 18446744073709551616) (m1 / 18446744073709551616) (cW1 m0 m1)
def cW2 (m0 m1 m2 : Nat) : Nat := aC (m2 % 18446744073709551616) (m1 / 18446744073709551616) (cW1 m0 m1)
def tW3 (m0 m1 m2 m3 : Nat) : Nat := aS (m3 % 18446744073709551616) (m2 / 18446744073709551616) (cW2 m0 m1 m2)
theorem words_sum (m0 m1 m2 m3 V : Nat) (h3 : m3 < 18446744073709551616) (hV : V = m0 + 18446744073709551616 * (m1 + 18446744073709551616 * (m2 + 18446744073709551616 * m3)))
    (hV4 : V / 18446744073709551616 / 18446744073709551616 / 18446744073709551616 < 18446744073709551616) :
    m0 % 18446744073709551616 + 18446744073709551616 * (tW1 m0 m1 + 18446744073709551616 * (tW2 m0 m1 m2 + 18446744073709551616 * tW3 m0 m1 m2 m3)) = V := by
  unfold tW1 tW2 tW3 cW2 cW1 aS aC
  omega
theorem p130_val : P130 = 4 * 18446744073709551616 * 18446744073709551616 := by decide +kernel
theorem words_low (t0 t1 t2 t3 V : Nat) (h0 : Wd t0) (h1 : Wd t1) (h2 : Wd t2) (hV : t0 + 18446744073709551616 * (t1 + 18446744073709551616 * (t2 + 18446744073709551616 * t3)) = V) :
    of3 t0 t1 (t2 % 4) + of3 (t2 - t2 % 4) t3 0 + of3 (t2 / 4 + t3 % 4 * 4611686018427387904) (t3 / 4) 0 = redN V := by
  unfold redN of3 Wd at *
  rw [p130_val]
  omega
theorem cW_le (m0 m1 m2 : Nat) (h0 : m0 / 18446744073709551616 < 18446744073709551616) (h1 : m1 / 18446744073709551616 < 18446744073709551616) : cW1 m0 m1 ≤ 1 ∧ cW2 m0 m1 m2 ≤ 1 := by
  unfold cW2 cW1 aC; omega
theorem mul_expand (a0 a1 a2 r0 r1 : Nat) : of3 a0 a1 a2 * (r0 + 18446744073709551616 * r1) =
    a0 * r0 + 18446744073709551616 * ((a1 * r0 + a0 * r1) + 18446744073709551616 * ((a2 * r0 + a1 * r1) + 18446744073709551616 * (a2 * r1))) := by
  unfold of3
  simp only [Nat.mul_add, Nat.add_mul, Nat.mul_assoc, Nat.mul_left_comm _ 18446744073709551616]
  omega
/-- The key's words are small: bounds of all products. -/
theorem mul_bounds (a0 a1 a2 r0 r1 : Nat) (h0 : Wd a0) (h1 : Wd a1) (h2 : a2 < 8) (k0 : r0 < 1152921504606846976) (k1 : r1 < 1152921504606846976) :
    a0 * r0 / 18446744073709551616 < 18446744073709551616 ∧ (a1 * r0 + a0 * r1) / 18446744073709551616 < 18446744073709551616 ∧ (a2 * r0 + a1 * r1) / 18446744073709551616 < 18446744073709551616 ∧ a2 * r1 < 18446744073709551616 ∧
    (a0 * r0 + 18446744073709551616 * ((a1 * r0 + a0 * r1) + 18446744073709551616 * ((a2 * r0 + a1 * r1) + 18446744073709551616 * (a2 * r1)))) / 18446744073709551616 / 18446744073709551616 / 18446744073709551616 < 18446744073709551616 := by
  unfold Wd at *
  have e1 : a0 * r0 ≤ 18446744073709551615 * 1152921504606846975 := Nat.mul_le_mul (by omega) (by omega)
  have e2 : a1 * r0 ≤ 18446744073709551615 * 1152921504606846975 := Nat.mul_le_mul (by omega) (by omega)
  have e3 : a0 * r1 ≤ 18446744073709551615 * 1152921504606846975 := Nat.mul_le_mul (by omega) (by omega)
  have e4 : a2 * r0 ≤ 7 * 1152921504606846975 := Nat.mul_le_mul (by omega) (by omega)
  have e5 : a1 * r1 ≤ 18446744073709551615 * 1152921504606846975 := Nat.mul_le_mul (by omega) (by omega)
  have e6 : a2 * r1 ≤ 7 * 1152921504606846975 := Nat.mul_le_mul (by omega) (by omega)
  generalize a0 * r0 = x1 at *
  generalize a1 * r0 = x2 at *
  generalize a0 * r1 = x3 at *
  generalize a2 * r0 = x4 at *
  generalize a1 * r1 = x5 at *
  generalize a2 * r1 = x6 at *
  omega
/-- The bits that mul takes apart. -/
theorem u64_and3 (x : Nat) (h : Wd x) : bits .and .u64 (x : Int) 3 = ((x % 4 : Nat) : Int) := by
  have := u64_and_nat x 3 h (by decide)
  rw [nat_mask2] at this
  exact this
theorem and_compl3 (x : Nat) (h : Wd x) : x &&& (18446744073709551615 - 3) = x - x % 4 := by
  unfold Wd at h
  apply Nat.eq_of_testBit_eq
  intro i
  rw [Nat.testBit_and]
  have e : x - x % 4 = 2 ^ 2 * (x / 4) := by omega
  rw [e, Nat.testBit_two_pow_mul]
  have e2 : 18446744073709551615 - 3 = 2 ^ 2 * (2 ^ 62 - 1) := by decide +kernel
  rw [e2, Nat.testBit_two_pow_mul, Nat.testBit_two_pow_sub_one]
  by_cases hi : 2 ≤ i
  · have ed : (x / 4).testBit (i - 2) = x.testBit i := by
      rw [show (4 : Nat) = 2 ^ 2 from rfl, Nat.testBit_div_two_pow]
      congr 1; omega
    rw [ed]
    by_cases h62 : i - 2 < 62
    · simp [hi, h62]
    · have : x.testBit i = false := Nat.testBit_lt_two_pow (Nat.lt_of_lt_of_le h (by
        have : 2 ^ 64 ≤ 2 ^ i := Nat.pow_le_pow_right (by decide) (by omega)
        simpa using this))
      simp [this]
  · simp [hi]
theorem u64_andNot3 (x : Nat) (h : Wd x) : bits .andNot .u64 (x : Int) 3 = ((x - x % 4 : Nat) : Int) := by
  have := u64_andNot_nat x 3 h (by decide)
  rw [and_compl3 x h] at this
  exact this
theorem u64_or62 (x y : Nat) (hx : x < 4611686018427387904) (hy : y < 4) : bits .or .u64 (x : Int) ((y * 4611686018427387904 : Nat) : Int) = ((x + y * 4611686018427387904 : Nat) : Int) := by
  rw [u64_or_nat _ _ (by omega) (by omega), Nat.or_comm, nat_join 62 _ _ (by omega) (by omega), Nat.add_comm]
end Go.Proofs.YtfoljmpphbhobaaDoor
