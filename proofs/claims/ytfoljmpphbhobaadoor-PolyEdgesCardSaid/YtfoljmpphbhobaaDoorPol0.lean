/- What poly's words reckon: plain laws on numbers. -/
import Derived.Test.YtfoljmpphbhobaaDoorNum10
import Derived.Laws.BitsAllLaws
namespace Go.Proofs.YtfoljmpphbhobaaDoor
open Go.RowKit Go.Spk
set_option linter.unusedVariables false
/-- Sum and carry of words, difference and borrow. -/
def aS (x y c : Nat) : Nat := (x + y + c) % 18446744073709551616
def aC (x y c : Nat) : Nat := (x + y + c) / 18446744073709551616
def sS (x y b : Nat) : Nat := (x + 18446744073709551616 - y - b) % 18446744073709551616
def sC (x y b : Nat) : Nat := if x < y + b then 1 else 0
def hiW (x y : Nat) : Nat := x * y / 18446744073709551616
def loW (x y : Nat) : Nat := x * y % 18446744073709551616
/-- It is a word. -/
def Wd (n : Nat) : Prop := n < 18446744073709551616
theorem aS_wd (x y c : Nat) : Wd (aS x y c) := by unfold Wd aS; omega
theorem sS_wd (x y c : Nat) : Wd (sS x y c) := by unfold Wd sS; omega
theorem loW_wd (x y : Nat) : Wd (loW x y) := by unfold Wd loW; omega
theorem hiW_wd (x y : Nat) (hx : Wd x) (hy : Wd y) : Wd (hiW x y) := by
  unfold Wd hiW at *
  rw [Nat.div_lt_iff_lt_mul (by omega)]
  exact Nat.mul_lt_mul'' hx hy
theorem aC_le (x y c : Nat) (hx : Wd x) (hy : Wd y) (hc : c ≤ 1) : aC x y c ≤ 1 := by unfold Wd aC at *; omega
theorem sC_le (x y c : Nat) : sC x y c ≤ 1 := by unfold sC; split <;> omega
/-- The words of a number. -/
def w0 (n : Nat) : Nat := n % 18446744073709551616
def w1 (n : Nat) : Nat := n / 18446744073709551616 % 18446744073709551616
def w2 (n : Nat) : Nat := n / 18446744073709551616 / 18446744073709551616 % 18446744073709551616
theorem w0_wd (n : Nat) : Wd (w0 n) := by unfold Wd w0; omega
theorem w1_wd (n : Nat) : Wd (w1 n) := by unfold Wd w1; omega
theorem w2_wd (n : Nat) : Wd (w2 n) := by unfold Wd w2; omega
/-- The number of three words. -/
def of3 (a b c : Nat) : Nat := a + 18446744073709551616 * (b + 18446744073709551616 * c)
theorem of3_w0 (a b c : Nat) (ha : Wd a) : w0 (of3 a b c) = a := by unfold Wd w0 of3 at *; omega
theorem of3_w1 (a b c : Nat) (ha : Wd a) (hb : Wd b) : w1 (of3 a b c) = b := by unfold Wd w1 of3 at *; omega
theorem of3_w2 (a b c : Nat) (ha : Wd a) (hb : Wd b) (hc : Wd c) : w2 (of3 a b c) = c := by unfold Wd w2 of3 at *; omega
/-- add's words. -/
theorem add_w0 (A lo hi top : Nat) : aS (w0 A) lo 0 = w0 (A + of3 lo hi top) := by unfold aS w0 of3; omega
theorem add_w1 (A lo hi top : Nat) : aS (w1 A) hi (aC (w0 A) lo 0) = w1 (A + of3 lo hi top) := by unfold aS aC w0 w1 of3; omega
theorem add_w2 (A lo hi top : Nat) : (w2 A + (top + aC (w1 A) hi (aC (w0 A) lo 0))) % 18446744073709551616 = w2 (A + of3 lo hi top) := by
  unfold aC w0 w1 w2 of3; omega
theorem of3_self (A : Nat) (h : A / 18446744073709551616 / 18446744073709551616 < 18446744073709551616) : of3 (w0 A) (w1 A) (w2 A) = A := by
  unfold of3 w0 w1 w2; omega
/-- less's words. -/
theorem less_lt (A : Nat) (hA : A / 18446744073709551616 / 18446744073709551616 < 18446744073709551616) :
    sC (w2 A) 3 (sC (w1 A) 18446744073709551615 (sC (w0 A) 18446744073709551611 0)) = if PP ≤ A then 0 else 1 := by
  have hp : PP = 1361129467683753853853498429727072845819 := by decide +kernel
  rw [hp]
  unfold sC w0 w1 w2
  split <;> split <;> split <;> split <;> omega
theorem less_w0 (A : Nat) (h : PP ≤ A) : sS (w0 A) 18446744073709551611 0 = w0 (A - PP) := by
  have hp : PP = 1361129467683753853853498429727072845819 := by decide +kernel
  rw [hp] at h ⊢
  unfold sS w0
  omega
theorem less_w1 (A : Nat) (h : PP ≤ A) : sS (w1 A) 18446744073709551615 (sC (w0 A) 18446744073709551611 0) = w1 (A - PP) := by
  have hp : PP = 1361129467683753853853498429727072845819 := by decide +kernel
  rw [hp] at h ⊢
  unfold sS sC w0 w1
  split <;> omega
theorem less_w2 (A : Nat) (h : PP ≤ A) : sS (w2 A) 3 (sC (w1 A) 18446744073709551615 (sC (w0 A) 18446744073709551611 0)) = w2 (A - PP) := by
  have hp : PP = 1361129467683753853853498429727072845819 := by decide +kernel
  rw [hp] at h ⊢
  unfold sS sC w0 w1 w2
  split <;> split <;> omega
end Go.Proofs.YtfoljmpphbhobaaDoor
