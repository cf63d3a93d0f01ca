/- What poly's words reckon: plain laws on numbers. · What poly's mul reckons: plain laws on numbers. · What poly's Sum reckons: plain laws. · The walks of poly's num, times, plus. · The walks of poly's add and less on its three words. · The walk of poly's mul. -/
import Derived.Test.YtfoljmpphbhobaaGreatDoorA3
import Derived.Test.YtfoljmpphbhobaaGreatDoorShelf
import Derived.Test.YtfoljmpphbhobaaGreatDoorA1
import Derived.Laws.BitsAllLaws
import Derived.Laws.Externs
import Derived.Shelf.Spec.BitsCarry
import Derived.StillTailTactics
import Derived.RegionTactic
import Derived.BigRegion
namespace Go.Proofs.YtfoljmpphbhobaaGreatDoor
open Go.RowKit Go.Spk
set_option linter.unusedVariables false
/-- Sum and carry of words, difference and borrow. -/
def aS (x y c : Nat) : Nat := (x + y + c) % 18446744073709551616
def aC (x y c : Nat) : Nat := (x + y + c) / 18446744073709551616
def sS (x y b : Nat) : Nat := (x + 18446744073709551616 - y - b) % 18446744073709551616
def sC (x y b : Nat) : Nat := if x < y + b then 1 else 0
def hiW (x y : Nat) : Nat := x * y / 18446744073709551616
def loW (x y : Nat) : Nat := x * y % 18446744073709551616
/-- It is a word. -/
def Wd (n : Nat) : Prop := n < 18446744073709551616
theorem aS_wd (x y c : Nat) : Wd (aS x y c) := by unfold Wd aS; omega
theorem sS_wd (x y c : Nat) : Wd (sS x y c) := by unfold Wd sS; omega
theorem loW_wd (x y : Nat) : Wd (loW x y) := by unfold Wd loW; omega
theorem hiW_wd (x y : Nat) (hx : Wd x) (hy : Wd y) : Wd (hiW x y) := by
  unfold Wd hiW at *
  rw [Nat.div_lt_iff_lt_mul (by omega)]
  exact Nat.mul_lt_mul'' hx hy
theorem aC_le (x y c : Nat) (hx : Wd x) (hy : Wd y) (hc : c ≤ 1) : aC x y c ≤ 1 := by unfold Wd aC at *; omega
theorem sC_le (x y c : Nat) : sC x y c ≤ 1 := by unfold sC; split <;> omega
/-- The words of a number. -/
def w0 (n : Nat) : Nat := n % 18446744073709551616
def w1 (n : Nat) : Nat := n / 18446744073709551616 % 18446744073709551616
def w2 (n : Nat) : Nat := n / 18446744073709551616 / 18446744073709551616 % 18446744073709551616
theorem w0_wd (n : Nat) : Wd (w0 n) := by unfold Wd w0; omega
theorem w1_wd (n : Nat) : Wd (w1 n) := by unfold Wd w1; omega
theorem w2_wd (n : Nat) : Wd (w2 n) := by unfold Wd w2; omega
/-- The number of three words. -/
def of3 (a b c : Nat) : Nat := a + 18446744073709551616 * (b + 18446744073709551616 * c)
theorem of3_w0 (a b c : Nat) (ha : Wd a) : w0 (of3 a b c) = a := by unfold Wd w0 of3 at *; omega
theorem of3_w1 (a b c : Nat) (ha : Wd a) (hb : Wd b) : w1 (of3 a b c) = b := by unfold Wd w1 of3 at *; omega
theorem of3_w2 (a b c : Nat) (ha : Wd a) (hb : Wd b) (hc : Wd c) : w2 (of3 a b c) = c := by unfold Wd w2 of3 at *; omega
/-- add's words. -/
theorem add_w0 (A lo hi top : Nat) : aS (w0 A) lo 0 = w0 (A + of3 lo hi top) := by unfold aS w0 of3; omega
theorem add_w1 (A lo hi top : Nat) : aS (w1 A) hi (aC (w0 A) lo 0) = w1 (A + of3 lo hi top) := by unfold aS aC w0 w1 of3; omega
theorem add_w2 (A lo hi top : Nat) : (w2 A + (top + aC (w1 A) hi (aC (w0 A) lo 0))) % 18446744073709551616 = w2 (A + of3 lo hi top) := by
  unfold aC w0 w1 w2 of3; omega
theorem of3_self (A : Nat) (h : A / 18446744073709551616 / 18446744073709551616 < 18446744073709551616) : of3 (w0 A) (w1 A) (w2 A) = A := by
  unfold of3 w0 w1 w2; omega
/-- less's words. -/
theorem less_lt (A : Nat) (hA : A / 18446744073709551616 / 18446744073709551616 < 18446744073709551616) :
    sC (w2 A) 3 (sC (w1 A) 18446744073709551615 (sC (w0 A) 18446744073709551611 0)) = if PP ≤ A then 0 else 1 := by
  have hp : PP = 1361129467683753853853498429727072845819 := by decide +kernel
  rw [hp]
  unfold sC w0 w1 w2
  split <;> split <;> split <;> split <;> omega
theorem less_w0 (A : Nat) (h : PP ≤ A) : sS (w0 A) 18446744073709551611 0 = w0 (A - PP) := by
  have hp : PP = 1361129467683753853853498429727072845819 := by decide +kernel
  rw [hp] at h ⊢
  unfold sS w0
  omega
theorem less_w1 (A : Nat) (h : PP ≤ A) : sS (w1 A) 18446744073709551615 (sC (w0 A) 18446744073709551611 0) = w1 (A - PP) := by
  have hp : PP = 1361129467683753853853498429727072845819 := by decide +kernel
  rw [hp] at h ⊢
  unfold sS sC w0 w1
  split <;> omega
theorem less_w2 (A : Nat) (h : PP ≤ A) : sS (w2 A) 3 (sC (w1 A) 18446744073709551615 (sC (w0 A) 18446744073709551611 0)) = w2 (A - PP) := by
  have hp : PP = 1361129467683753853853498429727072845819 := by decide +kernel
  rw [hp] at h ⊢
  unfold sS sC w0 w1 w2
  split <;> split <;> omega
end Go.Proofs.YtfoljmpphbhobaaGreatDoor
namespace Go.Proofs.YtfoljmpphbhobaaGreatDoor
open Go.RowKit Go.Spk
set_option linter.unusedVariables false
theorem plus_lo (x y : Nat) : aS (x % 18446744073709551616) (y % 18446744073709551616) 0 = (x + y) % 18446744073709551616 := by unfold aS; omega
theorem plus_hi (x y : Nat) (h : (x + y) / 18446744073709551616 < 18446744073709551616) :
    aS (x / 18446744073709551616) (y / 18446744073709551616) (aC (x % 18446744073709551616) (y % 18446744073709551616) 0) = (x + y) / 18446744073709551616 := by unfold aS aC; omega
/-- The words of a product, from four sums of products. -/
def tW1 (m0 m1 : Nat) : Nat := aS (m1 % 18446744073709551616) (m0 / 18446744073709551616) 0
def cW1 (m0 m1 : Nat) : Nat := aC (m1 % 18446744073709551616) (m0 / 18446744073709551616) 0
def tW2 (m0 m1 m2 : Nat) : Nat := aS (m2 % 18446744073709551616) (m1 / 18446744073709551616) (cW1 m0 m1)
def cW2 (m0 m1 m2 : Nat) : Nat := aC (m2 % 18446744073709551616) (m1 / 18446744073709551616) (cW1 m0 m1)
def tW3 (m0 m1 m2 m3 : Nat) : Nat := aS (m3 % 18446744073709551616) (m2 / 18446744073709551616) (cW2 m0 m1 m2)
theorem words_sum (m0 m1 m2 m3 V : Nat) (h3 : m3 < 18446744073709551616) (hV : V = m0 + 18446744073709551616 * (m1 + 18446744073709551616 * (m2 + 18446744073709551616 * m3)))
    (hV4 : V / 18446744073709551616 / 18446744073709551616 / 18446744073709551616 < 18446744073709551616) :
    m0 % 18446744073709551616 + 18446744073709551616 * (tW1 m0 m1 + 18446744073709551616 * (tW2 m0 m1 m2 + 18446744073709551616 * tW3 m0 m1 m2 m3)) = V := by
  unfold tW1 tW2 tW3 cW2 cW1 aS aC
  omega
theorem p130_val : P130 = 4 * 18446744073709551616 * 18446744073709551616 := by decide +kernel
theorem words_low (t0 t1 t2 t3 V : Nat) (h0 : Wd t0) (h1 : Wd t1) (h2 : Wd t2) (hV : t0 + 18446744073709551616 * (t1 + 18446744073709551616 * (t2 + 18446744073709551616 * t3)) = V) :
    of3 t0 t1 (t2 % 4) + of3 (t2 - t2 % 4) t3 0 + of3 (t2 / 4 + t3 % 4 * 4611686018427387904) (t3 / 4) 0 = redN V := by
  unfold redN of3 Wd at *
  rw [p130_val]
  omega
theorem cW_le (m0 m1 m2 : Nat) (h0 : m0 / 18446744073709551616 < 18446744073709551616) (h1 : m1 / 18446744073709551616 < 18446744073709551616) : cW1 m0 m1 ≤ 1 ∧ cW2 m0 m1 m2 ≤ 1 := by
  unfold cW2 cW1 aC; omega
theorem mul_expand (a0 a1 a2 r0 r1 : Nat) : of3 a0 a1 a2 * (r0 + 18446744073709551616 * r1) =
    a0 * r0 + 18446744073709551616 * ((a1 * r0 + a0 * r1) + 18446744073709551616 * ((a2 * r0 + a1 * r1) + 18446744073709551616 * (a2 * r1))) := by
  unfold of3
  simp only [Nat.mul_add, Nat.add_mul, Nat.mul_assoc, Nat.mul_left_comm _ 18446744073709551616]
  omega
/-- The key's words are small: bounds of all products. -/
theorem mul_bounds (a0 a1 a2 r0 r1 : Nat) (h0 : Wd a0) (h1 : Wd a1) (h2 : a2 < 8) (k0 : r0 < 1152921504606846976) (k1 : r1 < 1152921504606846976) :
    a0 * r0 / 18446744073709551616 < 18446744073709551616 ∧ (a1 * r0 + a0 * r1) / 18446744073709551616 < 18446744073709551616 ∧ (a2 * r0 + a1 * r1) / 18446744073709551616 < 18446744073709551616 ∧ a2 * r1 < 18446744073709551616 ∧
    (a0 * r0 + 18446744073709551616 * ((a1 * r0 + a0 * r1) + 18446744073709551616 * ((a2 * r0 + a1 * r1) + 18446744073709551616 * (a2 * r1)))) / 18446744073709551616 / 18446744073709551616 / 18446744073709551616 < 18446744073709551616 := by
  unfold Wd at *
  have e1 : a0 * r0 ≤ 18446744073709551615 * 1152921504606846975 := Nat.mul_le_mul (by omega) (by omega)
  have e2 : a1 * r0 ≤ 18446744073709551615 * 1152921504606846975 := Nat.mul_le_mul (by omega) (by omega)
  have e3 : a0 * r1 ≤ 18446744073709551615 * 1152921504606846975 := Nat.mul_le_mul (by omega) (by omega)
  have e4 : a2 * r0 ≤ 7 * 1152921504606846975 := Nat.mul_le_mul (by omega) (by omega)
  have e5 : a1 * r1 ≤ 18446744073709551615 * 1152921504606846975 := Nat.mul_le_mul (by omega) (by omega)
  have e6 : a2 * r1 ≤ 7 * 1152921504606846975 := Nat.mul_le_mul (by omega) (by omega)
  generalize a0 * r0 = x1 at *
  generalize a1 * r0 = x2 at *
  generalize a0 * r1 = x3 at *
  generalize a2 * r0 = x4 at *
  generalize a1 * r1 = x5 at *
  generalize a2 * r1 = x6 at *
  omega
/-- The bits that mul takes apart. -/
theorem u64_and3 (x : Nat) (h : Wd x) : bits .and .u64 (x : Int) 3 = ((x % 4 : Nat) : Int) := by
  have := u64_and_nat x 3 h (by decide)
  rw [nat_mask2] at this
  exact this
theorem and_compl3 (x : Nat) (h : Wd x) : x &&& (18446744073709551615 - 3) = x - x % 4 := by
  unfold Wd at h
  apply Nat.eq_of_testBit_eq
  intro i
  rw [Nat.testBit_and]
  have e : x - x % 4 = 2 ^ 2 * (x / 4) := by omega
  rw [e, Nat.testBit_two_pow_mul]
  have e2 : 18446744073709551615 - 3 = 2 ^ 2 * (2 ^ 62 - 1) := by decide +kernel
  rw [e2, Nat.testBit_two_pow_mul, Nat.testBit_two_pow_sub_one]
  by_cases hi : 2 ≤ i
  · have ed : (x / 4).testBit (i - 2) = x.testBit i := by
      rw [show (4 : Nat) = 2 ^ 2 from rfl, Nat.testBit_div_two_pow]
      congr 1; omega
    rw [ed]
    by_cases h62 : i - 2 < 62
    · simp [hi, h62]
    · have : x.testBit i = false := Nat.testBit_lt_two_pow (Nat.lt_of_lt_of_le h (by
        have : 2 ^ 64 ≤ 2 ^ i := Nat.pow_le_pow_right (by decide) (by omega)
        simpa using this))
      simp [this]
  · simp [hi]
theorem u64_andNot3 (x : Nat) (h : Wd x) : bits .andNot .u64 (x : Int) 3 = ((x - x % 4 : Nat) : Int) := by
  have := u64_andNot_nat x 3 h (by decide)
  rw [and_compl3 x h] at this
  exact this
theorem u64_or62 (x y : Nat) (hx : x < 4611686018427387904) (hy : y < 4) : bits .or .u64 (x : Int) ((y * 4611686018427387904 : Nat) : Int) = ((x + y * 4611686018427387904 : Nat) : Int) := by
  rw [u64_or_nat _ _ (by omega) (by omega), Nat.or_comm, nat_join 62 _ _ (by omega) (by omega), Nat.add_comm]
end Go.Proofs.YtfoljmpphbhobaaGreatDoor
namespace Go.Proofs.YtfoljmpphbhobaaGreatDoor
open Go.RowKit Go.Spk
set_option linter.unusedVariables false
theorem nb_append (a b : List Int) : nb (a ++ b) = nb a + 256 ^ a.length * nb b := by
  induction a with
  | nil => simp [nb]
  | cons x a ih =>
    rw [List.cons_append, nb, ih, nb, List.length_cons, Int.pow_succ]
    rw [Int.mul_add, ← Int.add_assoc, Int.mul_comm (256 ^ a.length) 256, Int.mul_assoc]
theorem nb_zeros (n : Nat) : nb (List.replicate n 0) = 0 := by
  induction n with
  | zero => rfl
  | succ n ih => rw [List.replicate_succ, nb, ih]; rfl
theorem nb_eight (a b : List Int) (h : a.length = 8) : nb (a ++ b) = nb a + 18446744073709551616 * nb b := by
  rw [nb_append, h]
  rfl
/-- A word of bytes. -/
def nW (ws : List Int) : Nat := (nb ws).toNat
theorem nW_int (ws : List Int) (h : U8s ws) : (nW ws : Int) = nb ws := by
  have := (nb_bd ws (mem_of_U8s h)).1
  unfold nW; omega
theorem nW_wd (ws : List Int) (h : U8s ws) (hl : ws.length ≤ 8) : Wd (nW ws) := by
  have h1 := nb_bd ws (mem_of_U8s h)
  have : 256 ^ ws.length ≤ 256 ^ 8 := Nat.pow_le_pow_right (by decide) hl
  have h2 : ((256 ^ ws.length : Nat) : Int) ≤ ((256 ^ 8 : Nat) : Int) := by exact_mod_cast this
  have h3 : ((256 ^ ws.length : Nat) : Int) = (256 : Int) ^ ws.length := by simp
  unfold nW Wd
  omega
theorem U8s_append {a b : List Int} (ha : U8s a) (hb : U8s b) : U8s (a ++ b) := U8s_of_mem fun x hx => by
  rcases List.mem_append.1 hx with h | h
  · exact mem_of_U8s ha x h
  · exact mem_of_U8s hb x h
theorem U8s_take {a : List Int} (ha : U8s a) (n : Nat) : U8s (a.take n) := U8s_of_mem fun x hx => mem_of_U8s ha x (List.mem_of_mem_take hx)
theorem U8s_drop {a : List Int} (ha : U8s a) (n : Nat) : U8s (a.drop n) := U8s_of_mem fun x hx => mem_of_U8s ha x (List.mem_of_mem_drop hx)
theorem nW_cat (a b : List Int) (ha : U8s a) (hb : U8s b) (h : a.length = 8) : nW (a ++ b) = nW a + 18446744073709551616 * nW b := by
  have e1 := nW_int a ha; have e2 := nW_int b hb; have e3 := nW_int _ (U8s_append ha hb)
  rw [nb_eight a b h, ← e1, ← e2] at e3
  omega
theorem one_u8 : U8s [1] := U8s_of_mem (by decide)
/-- A whole part, as three words. -/
theorem part_whole (ws : List Int) (k : Nat) (hw : U8s ws) (h : 16 * k + 16 ≤ ws.length) :
    of3 (nW ((ws.drop (16 * k)).take 8)) (nW (((ws.drop (16 * k)).drop 8).take 8)) 1 = (nb (partI ws k)).toNat := by
  generalize hx : (ws.drop (16 * k)) = xs
  have hl : 16 ≤ xs.length := by rw [← hx, List.length_drop]; omega
  have hu : U8s xs := by rw [← hx]; exact U8s_drop hw _
  have e : partI ws k = xs.take 8 ++ ((xs.drop 8).take 8 ++ [1]) := by
    unfold partI
    rw [hx, ← List.append_assoc]
    congr 1
    rw [show 16 = 8 + 8 from rfl, List.take_add]
  show _ = nW (partI ws k)
  rw [e, nW_cat _ _ (U8s_take hu 8) (U8s_append (U8s_take (U8s_drop hu 8) 8) one_u8) (by rw [List.length_take]; omega), nW_cat _ _ (U8s_take (U8s_drop hu 8) 8) one_u8 (by rw [List.length_take, List.length_drop]; omega)]
  have : nW [1] = 1 := by decide
  rw [this]
  unfold of3
  omega
/-- The last part, filled up with bytes 0, as two words. -/
theorem part_last (rs : List Int) (hr : U8s rs) (hl : rs.length = 16) (n : Nat) (ps : List Int) (h : rs = ps ++ List.replicate n 0) :
    of3 (nW (rs.take 8)) (nW (rs.drop 8)) 0 = (nb ps).toNat := by
  have e : nW rs = nW ps := by
    unfold nW
    rw [h, nb_append, nb_zeros, Int.mul_zero, Int.add_zero]
  have e2 : rs = rs.take 8 ++ rs.drop 8 := (List.take_append_drop 8 rs).symm
  have e3 := nW_cat (rs.take 8) (rs.drop 8) (U8s_take hr 8) (U8s_drop hr 8) (by rw [List.length_take, hl]; rfl)
  rw [← e2, e] at e3
  show _ = nW ps
  rw [e3]
  unfold of3
  omega
/-! ### The bits of the key that are cleared -/
theorem and_byte (b m x y : Nat) (hb : b < 256) (hm : m < 256) : (b + 256 * x) &&& (m + 256 * y) = (b &&& m) + 256 * (x &&& y) := by
  apply Nat.eq_of_testBit_eq
  intro i
  have hbm : b &&& m < 2 ^ 8 := Nat.lt_of_le_of_lt Nat.and_le_left (by simpa using hb)
  rw [Nat.testBit_and, show b + 256 * x = 2 ^ 8 * x + b by omega, show m + 256 * y = 2 ^ 8 * y + m by omega, show (b &&& m) + 256 * (x &&& y) = 2 ^ 8 * (x &&& y) + (b &&& m) by omega]
  rw [Nat.testBit_two_pow_mul_add _ (by simpa using hb), Nat.testBit_two_pow_mul_add _ (by simpa using hm), Nat.testBit_two_pow_mul_add _ hbm]
  split
  · rw [Nat.testBit_and]
  · rw [Nat.testBit_and]
theorem and255 (b : Nat) (h : b < 256) : b &&& 255 = b := by rw [nat_mask8]; omega
theorem and252 (b : Nat) (h : b < 256) : b &&& 252 = b / 4 * 4 := by
  revert b; decide +kernel
def loB (ws : List Int) : List Int := [ix ws 0, ix ws 1, ix ws 2, ix ws 3 % 16, ix ws 4 / 4 * 4, ix ws 5, ix ws 6, ix ws 7 % 16]
def hiB (ws : List Int) : List Int := [ix ws 0 / 4 * 4, ix ws 1, ix ws 2, ix ws 3 % 16, ix ws 4 / 4 * 4, ix ws 5, ix ws 6, ix ws 7 % 16]
theorem eight (ws : List Int) (h : ws.length = 8) : ws = [ix ws 0, ix ws 1, ix ws 2, ix ws 3, ix ws 4, ix ws 5, ix ws 6, ix ws 7] := by
  refine ix_ext (by rw [h]; rfl) fun i hi => ?_
  rw [h] at hi
  have : i = 0 ∨ i = 1 ∨ i = 2 ∨ i = 3 ∨ i = 4 ∨ i = 5 ∨ i = 6 ∨ i = 7 := by omega
  rcases this with rfl | rfl | rfl | rfl | rfl | rfl | rfl | rfl <;> rfl
theorem nW_eight (b0 b1 b2 b3 b4 b5 b6 b7 : Nat) : nW [(b0 : Int), (b1 : Int), (b2 : Int), (b3 : Int), (b4 : Int), (b5 : Int), (b6 : Int), (b7 : Int)] =
    b0 + 256 * (b1 + 256 * (b2 + 256 * (b3 + 256 * (b4 + 256 * (b5 + 256 * (b6 + 256 * (b7 + 256 * 0))))))) := by
  unfold nW
  simp only [nb]
  omega
theorem clamp_lo (ws : List Int) (hw : U8s ws) (h : ws.length = 8) : nW ws &&& 1152921487695413247 = nW (loB ws) := by
  have a0 := hw 0; have a1 := hw 1; have a2 := hw 2; have a3 := hw 3; have a4 := hw 4; have a5 := hw 5; have a6 := hw 6; have a7 := hw 7
  conv => lhs; rw [eight ws h]
  unfold loB
  generalize ix ws 0 = c0 at *; generalize ix ws 1 = c1 at *; generalize ix ws 2 = c2 at *; generalize ix ws 3 = c3 at *
  generalize ix ws 4 = c4 at *; generalize ix ws 5 = c5 at *; generalize ix ws 6 = c6 at *; generalize ix ws 7 = c7 at *
  obtain ⟨b0, rfl⟩ := Int.eq_ofNat_of_zero_le a0.1; obtain ⟨b1, rfl⟩ := Int.eq_ofNat_of_zero_le a1.1
  obtain ⟨b2, rfl⟩ := Int.eq_ofNat_of_zero_le a2.1; obtain ⟨b3, rfl⟩ := Int.eq_ofNat_of_zero_le a3.1
  obtain ⟨b4, rfl⟩ := Int.eq_ofNat_of_zero_le a4.1; obtain ⟨b5, rfl⟩ := Int.eq_ofNat_of_zero_le a5.1
  obtain ⟨b6, rfl⟩ := Int.eq_ofNat_of_zero_le a6.1; obtain ⟨b7, rfl⟩ := Int.eq_ofNat_of_zero_le a7.1
  rw [show (b3 : Int) % 16 = ((b3 % 16 : Nat) : Int) by omega, show (b4 : Int) / 4 * 4 = ((b4 / 4 * 4 : Nat) : Int) by omega, show (b7 : Int) % 16 = ((b7 % 16 : Nat) : Int) by omega]
  rw [nW_eight, nW_eight, show (1152921487695413247 : Nat) = 255 + 256 * (255 + 256 * (255 + 256 * (15 + 256 * (252 + 256 * (255 + 256 * (255 + 256 * (15 + 256 * 0))))))) from rfl]
  rw [and_byte _ _ _ _ (by omega) (by decide), and_byte _ _ _ _ (by omega) (by decide), and_byte _ _ _ _ (by omega) (by decide), and_byte _ _ _ _ (by omega) (by decide), and_byte _ _ _ _ (by omega) (by decide), and_byte _ _ _ _ (by omega) (by decide), and_byte _ _ _ _ (by omega) (by decide), and_byte _ _ _ _ (by omega) (by decide)]
  rw [and255 _ (by omega), and255 _ (by omega), and255 _ (by omega), and255 _ (by omega), and255 _ (by omega), nat_mask4, nat_mask4, and252 _ (by omega), Nat.and_zero]
theorem clamp_hi (ws : List Int) (hw : U8s ws) (h : ws.length = 8) : nW ws &&& 1152921487695413244 = nW (hiB ws) := by
  have a0 := hw 0; have a1 := hw 1; have a2 := hw 2; have a3 := hw 3; have a4 := hw 4; have a5 := hw 5; have a6 := hw 6; have a7 := hw 7
  conv => lhs; rw [eight ws h]
  unfold hiB
  generalize ix ws 0 = c0 at *; generalize ix ws 1 = c1 at *; generalize ix ws 2 = c2 at *; generalize ix ws 3 = c3 at *
  generalize ix ws 4 = c4 at *; generalize ix ws 5 = c5 at *; generalize ix ws 6 = c6 at *; generalize ix ws 7 = c7 at *
  obtain ⟨b0, rfl⟩ := Int.eq_ofNat_of_zero_le a0.1; obtain ⟨b1, rfl⟩ := Int.eq_ofNat_of_zero_le a1.1
  obtain ⟨b2, rfl⟩ := Int.eq_ofNat_of_zero_le a2.1; obtain ⟨b3, rfl⟩ := Int.eq_ofNat_of_zero_le a3.1
  obtain ⟨b4, rfl⟩ := Int.eq_ofNat_of_zero_le a4.1; obtain ⟨b5, rfl⟩ := Int.eq_ofNat_of_zero_le a5.1
  obtain ⟨b6, rfl⟩ := Int.eq_ofNat_of_zero_le a6.1; obtain ⟨b7, rfl⟩ := Int.eq_ofNat_of_zero_le a7.1
  rw [show (b0 : Int) / 4 * 4 = ((b0 / 4 * 4 : Nat) : Int) by omega, show (b3 : Int) % 16 = ((b3 % 16 : Nat) : Int) by omega, show (b4 : Int) / 4 * 4 = ((b4 / 4 * 4 : Nat) : Int) by omega, show (b7 : Int) % 16 = ((b7 % 16 : Nat) : Int) by omega]
  rw [nW_eight, nW_eight, show (1152921487695413244 : Nat) = 252 + 256 * (255 + 256 * (255 + 256 * (15 + 256 * (252 + 256 * (255 + 256 * (255 + 256 * (15 + 256 * 0))))))) from rfl]
  rw [and_byte _ _ _ _ (by omega) (by decide), and_byte _ _ _ _ (by omega) (by decide), and_byte _ _ _ _ (by omega) (by decide), and_byte _ _ _ _ (by omega) (by decide), and_byte _ _ _ _ (by omega) (by decide), and_byte _ _ _ _ (by omega) (by decide), and_byte _ _ _ _ (by omega) (by decide), and_byte _ _ _ _ (by omega) (by decide)]
  rw [and255 _ (by omega), and255 _ (by omega), and255 _ (by omega), and255 _ (by omega), nat_mask4, nat_mask4, and252 _ (by omega), and252 _ (by omega), Nat.and_zero]
theorem loB_bd (ws : List Int) (hw : U8s ws) : nW (loB ws) < 1152921504606846976 := by
  have a0 := hw 0; have a1 := hw 1; have a2 := hw 2; have a3 := hw 3; have a4 := hw 4; have a5 := hw 5; have a6 := hw 6; have a7 := hw 7
  unfold nW loB
  simp only [nb]
  omega
theorem hiB_bd (ws : List Int) (hw : U8s ws) : nW (hiB ws) < 1152921504606846976 := by
  have a0 := hw 0; have a1 := hw 1; have a2 := hw 2; have a3 := hw 3; have a4 := hw 4; have a5 := hw 5; have a6 := hw 6; have a7 := hw 7
  unfold nW hiB
  simp only [nb]
  omega
theorem sixteen (ws : List Int) (h : ws.length = 16) : ws = [ix ws 0, ix ws 1, ix ws 2, ix ws 3, ix ws 4, ix ws 5, ix ws 6, ix ws 7, ix ws 8, ix ws 9, ix ws 10, ix ws 11, ix ws 12, ix ws 13, ix ws 14, ix ws 15] := by
  refine ix_ext (by rw [h]; rfl) fun i hi => ?_
  rw [h] at hi
  have : i = 0 ∨ i = 1 ∨ i = 2 ∨ i = 3 ∨ i = 4 ∨ i = 5 ∨ i = 6 ∨ i = 7 ∨ i = 8 ∨ i = 9 ∨ i = 10 ∨ i = 11 ∨ i = 12 ∨ i = 13 ∨ i = 14 ∨ i = 15 := by omega
  rcases this with rfl | rfl | rfl | rfl | rfl | rfl | rfl | rfl | rfl | rfl | rfl | rfl | rfl | rfl | rfl | rfl <;> rfl
theorem clamp_words (ks : List Int) (hk : U8s ks) (hl : ks.length = 32) : clampN ks = nW (loB (ks.take 8)) + 18446744073709551616 * nW (hiB ((ks.drop 8).take 8)) := by
  have h16 : (ks.take 16).length = 16 := by rw [List.length_take, hl]; rfl
  have e := sixteen _ h16
  have hu := U8s_take hk 16
  have e8 : ks.take 8 = (ks.take 16).take 8 := by rw [List.take_take]; rfl
  have e9 : (ks.drop 8).take 8 = (ks.take 16).drop 8 := by rw [List.drop_take]
  unfold clampN clampI
  rw [e8, e9]
  generalize ks.take 16 = zs at *
  rw [e]
  have u := hu
  generalize ix zs 0 = c0 at *; generalize ix zs 1 = c1 at *; generalize ix zs 2 = c2 at *; generalize ix zs 3 = c3 at *
  generalize ix zs 4 = c4 at *; generalize ix zs 5 = c5 at *; generalize ix zs 6 = c6 at *; generalize ix zs 7 = c7 at *
  generalize ix zs 8 = c8 at *; generalize ix zs 9 = c9 at *; generalize ix zs 10 = c10 at *; generalize ix zs 11 = c11 at *
  generalize ix zs 12 = c12 at *; generalize ix zs 13 = c13 at *; generalize ix zs 14 = c14 at *; generalize ix zs 15 = c15 at *
  rw [e] at u
  have a0 := u 0; have a1 := u 1; have a2 := u 2; have a3 := u 3; have a4 := u 4; have a5 := u 5; have a6 := u 6; have a7 := u 7
  have a8 := u 8; have a9 := u 9; have a10 := u 10; have a11 := u 11; have a12 := u 12; have a13 := u 13; have a14 := u 14; have a15 := u 15
  simp only [ix, List.getD_eq_getElem?_getD, List.getElem?_cons_zero, List.getElem?_cons_succ, Option.getD_some] at a0 a1 a2 a3 a4 a5 a6 a7 a8 a9 a10 a11 a12 a13 a14 a15
  simp only [sets, qsA, qsB, ix, List.getD_eq_getElem?_getD, List.getElem?_cons_zero, List.getElem?_cons_succ, Option.getD_some, List.set_cons_zero, List.set_cons_succ, loB, hiB, nW, nb, List.take_succ_cons, List.take_zero, List.drop_succ_cons, List.drop_zero]
  omega
/-! ### The rounds -/
/-- What a sum never reaches. -/
def BB : Nat := P130 + P130 / 4
theorem bb_val : BB = 1701411834604692317316873037158841057280 := by decide +kernel
theorem p130_lit : P130 = 1361129467683753853853498429727072845824 := by decide +kernel
theorem pp_lit : PP = 1361129467683753853853498429727072845819 := by decide +kernel
/-- A round keeps the bound. -/
theorem round_bd (A N R : Nat) (hA : A < BB) (hN : N < 680564733841876926926749214863536422912) (hR : R < 21267647932558653966460912964485513216) :
    (A + N) / 18446744073709551616 / 18446744073709551616 < 8 ∧ redN ((A + N) * R) < BB := by
  rw [bb_val] at *
  refine ⟨by omega, ?_⟩
  unfold redN
  rw [p130_lit]
  have h : (A + N) * R ≤ 2722258935367507707706996859454145691647 * 21267647932558653966460912964485513215 := Nat.mul_le_mul (by omega) (by omega)
  generalize (A + N) * R = v at *
  omega
theorem round_acc (A N R : Nat) (ws : List Int) (k : Nat) (h : A % PP = accN R ws k) (hN : N = (nb (partI ws k)).toNat) : redN ((A + N) * R) % PP = accN R ws (k + 1) := by
  rw [redN_mod, accN, ← h, ← hN]
  simp [Nat.mul_mod, Nat.add_mod]
theorem less_mod (A : Nat) (h : A < BB) : (if PP ≤ A then A - PP else A) = A % PP := by
  rw [bb_val] at h
  rw [pp_lit]
  split <;> omega
theorem BB_words (A : Nat) (h : A < BB) : A / 18446744073709551616 / 18446744073709551616 < 18446744073709551616 := by rw [bb_val] at h; omega
end Go.Proofs.YtfoljmpphbhobaaGreatDoor
namespace Go.Proofs.YtfoljmpphbhobaaGreatDoor
open Go.RowKit Go.Spk
set_option linter.unusedVariables false
theorem run_add64 (x y c : Nat) (hc : c ≤ 1) (w : World) :
    (callFunc 99 #[.int .u64 x, .int .u64 y, .int .u64 c]).run Tryz.prog w = .ok (.value (.tuple #[.int .u64 (aS x y c : Nat), .int .u64 (aC x y c : Nat)])) w := by
  rw [run_callFunc_extern Tryz.func99 (by kernel_rfl) (by kernel_rfl) (by kernel_rfl) (e := add64Entry) (by kernel_rfl), Go.run_add64 x y c (by omega) (by omega) (by omega) (by omega)]
  simp only [Result.andThen, aS, aC]
  congr 5 <;> omega
theorem run_sub64 (x y b : Nat) (hb : b ≤ 1) (w : World) :
    (callFunc 102 #[.int .u64 x, .int .u64 y, .int .u64 b]).run Tryz.prog w = .ok (.value (.tuple #[.int .u64 (sS x y b : Nat), .int .u64 (sC x y b : Nat)])) w := by
  rw [run_callFunc_extern Tryz.func102 (by kernel_rfl) (by kernel_rfl) (by kernel_rfl) (e := sub64Entry) (by kernel_rfl), Go.Proofs.run_sub64 x y b hb]
  rfl
theorem u64_shl8_or (x b : Int) (h0 : 0 ≤ x) (h1 : x < 72057594037927936) (b0 : 0 ≤ b) (b1 : b ≤ 255) : bits .or .u64 (x * 256) b = b + 256 * x := by
  obtain ⟨n, rfl⟩ := Int.eq_ofNat_of_zero_le h0
  obtain ⟨m, rfl⟩ := Int.eq_ofNat_of_zero_le b0
  rw [show (n : Int) * 256 = ((n * 256 : Nat) : Int) by omega, u64_or_nat _ _ (by omega) (by omega), nat_join 8 _ _ (by omega) (by omega)]
  omega
theorem nb_drop (ws : List Int) (k : Nat) (h : k < ws.length) : nb (ws.drop k) = ix ws k + 256 * nb (ws.drop (k + 1)) := by
  rw [List.drop_eq_getElem_cons h, nb]
  simp [ix, List.getD, h]
theorem nb_small (ws : List Int) (k : Nat) (h : U8s ws) (hl : ws.length ≤ 8) (hk : 0 < k) : 0 ≤ nb (ws.drop k) ∧ nb (ws.drop k) < 72057594037927936 := by
  have h1 := nb_bd (ws.drop k) (fun b hb => mem_of_U8s h b (List.mem_of_mem_drop hb))
  refine ⟨h1.1, Int.lt_of_lt_of_le h1.2 ?_⟩
  have : 256 ^ (ws.drop k).length ≤ 256 ^ 7 := Nat.pow_le_pow_right (by decide) (by rw [List.length_drop]; omega)
  have h2 : ((256 ^ (ws.drop k).length : Nat) : Int) ≤ ((256 ^ 7 : Nat) : Int) := by exact_mod_cast this
  have h3 : ((256 ^ (ws.drop k).length : Nat) : Int) = (256 : Int) ^ (ws.drop k).length := by simp
  omega
set_option maxRecDepth 100000 in
set_option maxHeartbeats 1000000 in
theorem num_calls (s : ByteArray) (hs : s.size ≤ 8) (w : World) :
    Calls Tryz.prog 83 #[.string s] w fun e w' => e = .returned (.int .u64 (nb (bI s))) ∧ w = w' := by
  have gs : ∀ (n : Nat) (h : n < s.size), ((s[n]'h).toNat : Int) = ix (bI s) n := fun n h => (ix_bI s n h).symm
  go_enter Tryz.func83, Tryz.ntmps83
  go_wp2_with fail
  go_loop [3, 4] (fun x i => ∃ k : Nat, k ≤ s.size ∧ i = .int .i64 ((k : Int) - 1) ∧ x = .int .u64 (nb ((bI s).drop k))) (fun _ i => (intOf i + 1).toNat)
  case atStart => exact ⟨s.size, by omega, rfl, by rw [List.drop_of_length_le (by rw [bI_length]; exact Nat.le_refl _)]; rfl⟩
  case round =>
    obtain ⟨k, hk, rfl, rfl⟩ := hrel
    by_cases hlt : k = 0
    · subst hlt
      rw [List.drop_zero]
      go_wp2_with fail
      go_ret
      exact ⟨rfl, rfl⟩
    · obtain ⟨m, rfl⟩ : ∃ m, k = m + 1 := ⟨k - 1, by omega⟩
      have i1 : ((m + 1 : Nat) : Int) - 1 = m := by omega
      have i2 : (m : Int) < s.size := by omega
      have hu := U8s_bI s m
      obtain ⟨u0, u1⟩ := hu
      obtain ⟨v0, v1⟩ := nb_small (bI s) (m + 1) (U8s_bI s) (by rw [bI_length]; exact hs) (by omega)
      have hv := nb_drop (bI s) m (by rw [bI_length]; omega)
      obtain ⟨v, hve⟩ : ∃ v, v = nb ((bI s).drop (m + 1)) := ⟨_, rfl⟩
      rw [← hve] at v0 v1 hv ⊢
      have ho := u64_shl8_or v (ix (bI s) m) v0 v1 u0 u1
      rw [← hv] at ho
      have HV := Lib.hid hv
      clear hve hv
      go_wp2_with fail
      go_round
      case rel => exact ⟨m, by omega, rfl, rfl⟩
      case measure => simp [intOf]
/-- A wide number. -/
def wideV (lo hi : Nat) : Value := .agg #[.int .u64 lo, .int .u64 hi]
set_option maxRecDepth 100000 in
set_option maxHeartbeats 1000000 in
theorem times_calls (x y : Nat) (hx : Wd x) (hy : Wd y) (w : World) :
    Calls Tryz.prog 100 #[.int .u64 x, .int .u64 y] w fun e w' => e = .returned (wideV (loW x y) (hiW x y)) ∧ Below w.heap.size w w' := by
  have HX := Lib.hid hx; have HY := Lib.hid hy
  clear hx hy
  go_enter Tryz.func100, Tryz.ntmps100
  go_wp2_with fail
  refine (Tryz.bits_Mul64 x y HX.out HY.out _).mono ?_
  rw [show x * y / 18446744073709551616 = hiW x y from rfl, show x * y % 18446744073709551616 = loW x y from rfl]
  rintro e w1 ⟨rfl, rfl⟩
  go_wp2_with fail
  exact bodyPost_ret (v := wideV (loW x y) (hiW x y)) (by simp [results, Tryz.results100, go_sem, wideV]) rfl ⟨rfl, (Below.refl _ _).alloc (Nat.le_refl _) _⟩
set_option maxRecDepth 100000 in
set_option maxHeartbeats 1000000 in
theorem plus_calls (a b c d : Nat) (ha : Wd a) (hc : Wd c) (w : World) :
    Calls Tryz.prog 101 #[wideV a b, wideV c d] w fun e w' => e = .returned (wideV (aS a c 0) (aS b d (aC a c 0))) ∧ Below w.heap.size w w' := by
  have h1 := fun W => run_add64 a c 0 (by decide) W
  have h2 := fun W => run_add64 b d (aC a c 0) (aC_le _ _ _ ha hc (by decide)) W
  rw [show ((0 : Nat) : Int) = 0 from rfl] at h1
  unfold wideV
  go_enter Tryz.func101, Tryz.ntmps101
  go_wp2_with fail
  exact bodyPost_ret (v := wideV (aS a c 0) (aS b d (aC a c 0))) (by simp [results, Tryz.results101, go_sem, wideV]) rfl ⟨rfl, (((Below.refl _ _).alloc (Nat.le_refl _) _).alloc (by simp) _).alloc (by simp; omega) _⟩
end Go.Proofs.YtfoljmpphbhobaaGreatDoor
namespace Go.Proofs.YtfoljmpphbhobaaGreatDoor
open Go.RowKit Go.Spk
set_option linter.unusedVariables false
/-- The five words of a sum: a in three, r in two. -/
def sumI (A r0 r1 : Nat) : List Int := [(w0 A : Int), (w1 A : Int), (w2 A : Int), (r0 : Int), (r1 : Int)]
def rawI (a0 a1 a2 r0 r1 : Nat) : List Int := [(a0 : Int), (a1 : Int), (a2 : Int), (r0 : Int), (r1 : Int)]
theorem rawI_of (A r0 r1 : Nat) : rawI (w0 A) (w1 A) (w2 A) r0 r1 = sumI A r0 r1 := rfl
section
variable {w W : World} {g : Nat} {t : TypeId} {a0 a1 a2 r0 r1 : Nat}
theorem raw_cells (U : Upd w W g t .u64 (rawI a0 a1 a2 r0 r1)) :
    W.cell? ⟨g, 0, none⟩ = some (.int .u64 a0) ∧ W.cell? ⟨g, 1, none⟩ = some (.int .u64 a1) ∧ W.cell? ⟨g, 2, none⟩ = some (.int .u64 a2) ∧ W.cell? ⟨g, 3, none⟩ = some (.int .u64 r0) ∧ W.cell? ⟨g, 4, none⟩ = some (.int .u64 r1) :=
  ⟨U.cell 0 (by simp [rawI]), U.cell 1 (by simp [rawI]), U.cell 2 (by simp [rawI]), U.cell 3 (by simp [rawI]), U.cell 4 (by simp [rawI])⟩
end
set_option maxRecDepth 100000 in
set_option maxHeartbeats 1000000 in
theorem sadd_calls (g : Nat) (t : TypeId) (A r0 r1 lo hi top : Nat) (hlo : Wd lo) (hhi : Wd hi) (htop : top ≤ 1) (w : World) (hS : Whole w g t (rowI .u64 (sumI A r0 r1))) :
    Calls Tryz.prog 84 #[.pointer (some ⟨g, 0, none⟩), .int .u64 lo, .int .u64 hi, .int .u64 top] w
      fun e w' => e = .returned (.tuple #[]) ∧ Upd w w' g t .u64 (sumI (A + of3 lo hi top) r0 r1) := by
  have e0 := add_w0 A lo hi top
  have e1 := add_w1 A lo hi top
  have e2 := add_w2 A lo hi top
  have d0 := w0_wd A; have d1 := w1_wd A; have d2 := w2_wd A
  rw [← rawI_of] at hS ⊢
  rw [← e0, ← e1, ← e2]
  generalize w0 A = a0 at *
  generalize w1 A = a1 at *
  generalize w2 A = a2 at *
  clear e0 e1 e2
  have hc1 := aC_le a0 lo 0 d0 hlo (by decide)
  have hc2 := aC_le a1 hi (aC a0 lo 0) d1 hhi hc1
  have h1 := fun W => run_add64 a0 lo 0 (by decide) W
  have h2 := fun W => run_add64 a1 hi (aC a0 lo 0) hc1 W
  rw [show ((0 : Nat) : Int) = 0 from rfl] at h1
  generalize aC a1 hi (aC a0 lo 0) = c2 at *
  generalize aC a0 lo 0 = c1 at *
  generalize aS a1 hi c1 = s1 at *
  generalize aS a0 lo 0 = s0 at *
  have U0 := Upd.start hS
  obtain ⟨k0, k1, k2, k3, k4⟩ := raw_cells U0
  have f0 := U0.frozen 0
  have hw1 : IntKind.u64.wrap ((top : Int) + (c2 : Int)) = (top : Int) + c2 := by rw [IntKind.wrap_u64]; omega
  obtain ⟨s2, hs2⟩ : ∃ s2, s2 = (a2 + (top + c2)) % 18446744073709551616 := ⟨_, rfl⟩
  have hw2 : IntKind.u64.wrap ((a2 : Int) + ((top : Int) + (c2 : Int))) = (s2 : Int) := by rw [IntKind.wrap_u64, hs2]; omega
  rw [← hs2]
  have HW1 := Lib.hid hw1; have HW2 := Lib.hid hw2
  clear hs2 hw1 hw2
  clear hc1 hc2 d0 d1 d2 htop hlo hhi
  go_enter Tryz.func84, Tryz.ntmps84
  go_wp2_with fail
  go_region
  go_wp2_with fail
  have U1 : Upd w _ g t .u64 (rawI s0 a1 a2 r0 r1) := (U0.set 0 s0).drew
  generalize (w.setCell ⟨g, 0, none⟩ (.int .u64 (s0 : Nat))).drew = W1 at U1 ⊢
  clear k0 k1 k2 k3 k4 f0 h1
  obtain ⟨k0, k1, k2, k3, k4⟩ := raw_cells U1
  have f1 := U1.frozen 1
  go_region
  go_wp2_with fail
  have U2 : Upd w _ g t .u64 (rawI s0 s1 a2 r0 r1) := (U1.set 1 s1).drew
  generalize (W1.setCell ⟨g, 1, none⟩ (.int .u64 (s1 : Nat))).drew = W2 at U2 ⊢
  clear k0 k1 k2 k3 k4 f1 h2
  obtain ⟨k0, k1, k2, k3, k4⟩ := raw_cells U2
  have f2 := U2.frozen 2
  have hw1 := HW1.out; have hw2 := HW2.out
  go_region
  go_wp2_with fail
  go_end0
  exact ⟨rfl, (U2.set 2 s2).drew⟩
set_option maxRecDepth 100000 in
set_option maxHeartbeats 1000000 in
theorem sless_calls (g : Nat) (t : TypeId) (A r0 r1 : Nat) (hA : A / 18446744073709551616 / 18446744073709551616 < 18446744073709551616) (w : World) (hS : Whole w g t (rowI .u64 (sumI A r0 r1))) :
    Calls Tryz.prog 86 #[.pointer (some ⟨g, 0, none⟩)] w
      fun e w' => e = .returned (.tuple #[]) ∧ Upd w w' g t .u64 (sumI (if PP ≤ A then A - PP else A) r0 r1) := by
  have U0 := Upd.start hS
  have hlt := less_lt A hA
  have h1 := fun W => run_sub64 (w0 A) 18446744073709551611 0 (by decide) W
  have h2 := fun W => run_sub64 (w1 A) 18446744073709551615 (sC (w0 A) 18446744073709551611 0) (sC_le _ _ _) W
  have h3 := fun W => run_sub64 (w2 A) 3 (sC (w1 A) 18446744073709551615 (sC (w0 A) 18446744073709551611 0)) (sC_le _ _ _) W
  rw [show ((0 : Nat) : Int) = 0 from rfl, show ((18446744073709551611 : Nat) : Int) = 18446744073709551611 from rfl] at h1
  rw [show ((18446744073709551615 : Nat) : Int) = 18446744073709551615 from rfl] at h2
  rw [show ((3 : Nat) : Int) = 3 from rfl] at h3
  have L0 := less_w0 A; have L1 := less_w1 A; have L2 := less_w2 A
  have HL := Lib.hid (And.intro L0 (And.intro L1 L2))
  clear L0 L1 L2
  obtain ⟨k0, k1, k2, k3, k4⟩ := raw_cells (rawI_of A r0 r1 ▸ U0)
  have f0 := U0.frozen 0; have f1 := U0.frozen 1; have f2 := U0.frozen 2
  by_cases hp : PP ≤ A
  · rw [if_pos hp] at hlt ⊢
    rw [hlt] at h3
    obtain ⟨e0, e1, e2⟩ := HL.out
    have e0 := e0 hp; have e1 := e1 hp; have e2 := e2 hp
    rw [e2] at h3
    rw [e1] at h2
    rw [e0] at h1
    have E := Lib.hid (And.intro e0 (And.intro e1 e2))
    clear e0 e1 e2 HL hlt
    generalize A - PP = A' at *
    go_enter Tryz.func86, Tryz.ntmps86
    go_wp2_with fail
    go_end0
    exact ⟨rfl, ((U0.set 0 (w0 A' : Nat)).set 1 (w1 A' : Nat)).set 2 (w2 A' : Nat)⟩
  · rw [if_neg hp] at hlt ⊢
    rw [hlt] at h3
    clear hlt HL
    go_enter Tryz.func86, Tryz.ntmps86
    go_wp2_with fail
    go_end0
    exact ⟨rfl, U0⟩
end Go.Proofs.YtfoljmpphbhobaaGreatDoor
namespace Go.Proofs.YtfoljmpphbhobaaGreatDoor
open Go.RowKit Go.Spk
set_option linter.unusedVariables false
theorem wide_cells {w : World} {p : Nat} {a b : Nat} (h : Whole w p 182 #[.int .u64 a, .int .u64 b]) : w.cell? ⟨p, 0, none⟩ = some (.int .u64 a) ∧ w.cell? ⟨p, 1, none⟩ = some (.int .u64 b) := ⟨h.at_ 0, h.at_ 1⟩
theorem wide_one (a b : Nat) : (#[Value.int .u64 a, Value.int .u64 b] : Array Value).all (·.oneCell') = true := by
  rw [Array.all_eq_true_iff_forall_mem]; intro v hv; simp at hv; rcases hv with rfl | rfl <;> rfl
/-- The sum of two products, as a wide number. -/
theorem plus_prod (a b c d : Nat) (ha : Wd a) (hb : Wd b) (hc : Wd c) (hd : Wd d) (h : (a * b + c * d) / 18446744073709551616 < 18446744073709551616) (w : World) :
    Calls Tryz.prog 101 #[wideV (loW a b) (hiW a b), wideV (loW c d) (hiW c d)] w fun e w' => e = .returned (wideV ((a * b + c * d) % 18446744073709551616) ((a * b + c * d) / 18446744073709551616)) ∧ Below w.heap.size w w' := by
  have := plus_calls (loW a b) (hiW a b) (loW c d) (hiW c d) (loW_wd _ _) (loW_wd _ _) w
  unfold loW hiW at this
  rw [plus_lo, plus_hi _ _ h] at this
  exact this
set_option maxRecDepth 100000 in
set_option maxHeartbeats 4000000 in
theorem smul_calls (g : Nat) (t : TypeId) (A r0 r1 : Nat) (hA : A / 18446744073709551616 / 18446744073709551616 < 8) (h0 : r0 < 1152921504606846976) (h1 : r1 < 1152921504606846976) (w : World) (hS : Whole w g t (rowI .u64 (sumI A r0 r1))) :
    Calls Tryz.prog 85 #[.pointer (some ⟨g, 0, none⟩)] w
      fun e w' => e = .returned (.tuple #[]) ∧ w.grownBy w' (some g) ∧ Whole w' g t (rowI .u64 (sumI (redN (A * (r0 + 18446744073709551616 * r1))) r0 r1)) := by
  have d0 := w0_wd A; have d1 := w1_wd A; have d2 := w2_wd A
  have eA := of3_self A (by omega)
  have e2 : w2 A < 8 := by unfold w2; omega
  rw [← rawI_of] at hS
  rw [← eA]
  generalize w0 A = a0 at *
  generalize w1 A = a1 at *
  generalize w2 A = a2 at *
  clear hA eA
  have k0 : Wd r0 := by unfold Wd; omega
  have k1 : Wd r1 := by unfold Wd; omega
  obtain ⟨b0, b1, b2, b3, b4⟩ := mul_bounds a0 a1 a2 r0 r1 d0 d1 e2 h0 h1
  rw [mul_expand]
  have P1 := Lib.hid (plus_prod a1 r0 a0 r1 d1 k0 d0 k1 b1)
  have P2 := Lib.hid (plus_prod a2 r0 a1 r1 d2 k0 d1 k1 b2)
  have T0 := Lib.hid (times_calls a0 r0 d0 k0)
  have T1 := Lib.hid (times_calls a1 r0 d1 k0)
  have T2 := Lib.hid (times_calls a0 r1 d0 k1)
  have T3 := Lib.hid (times_calls a2 r0 d2 k0)
  have T4 := Lib.hid (times_calls a1 r1 d1 k1)
  have T5 := Lib.hid (times_calls a2 r1 d2 k1)
  generalize hm0 : a0 * r0 = m0 at *
  generalize hm1 : a1 * r0 + a0 * r1 = m1 at *
  generalize hm2 : a2 * r0 + a1 * r1 = m2 at *
  generalize hm3 : a2 * r1 = m3 at *
  generalize hV : m0 + 18446744073709551616 * (m1 + 18446744073709551616 * (m2 + 18446744073709551616 * m3)) = V at *
  have hsum := words_sum m0 m1 m2 m3 V b3 hV.symm b4
  obtain ⟨cc1, cc2⟩ := cW_le m0 m1 m2 b0 b1
  have A1 := fun W => run_add64 (m1 % 18446744073709551616) (m0 / 18446744073709551616) 0 (by decide) W
  have A2 := fun W => run_add64 (m2 % 18446744073709551616) (m1 / 18446744073709551616) (cW1 m0 m1) cc1 W
  have A3 := fun W => run_add64 (m3 % 18446744073709551616) (m2 / 18446744073709551616) (cW2 m0 m1 m2) cc2 W
  rw [show ((0 : Nat) : Int) = 0 from rfl] at A1
  have wt1 : Wd (tW1 m0 m1) := aS_wd _ _ _
  have wt2 : Wd (tW2 m0 m1 m2) := aS_wd _ _ _
  have wt3 : Wd (tW3 m0 m1 m2 m3) := aS_wd _ _ _
  have wt0 : Wd (m0 % 18446744073709551616) := by unfold Wd; omega
  change ∀ W, Sem.run _ _ W = .ok (Next.value (.tuple #[.int .u64 (tW1 m0 m1 : Nat), .int .u64 (cW1 m0 m1 : Nat)])) W at A1
  change ∀ W, Sem.run _ _ W = .ok (Next.value (.tuple #[.int .u64 (tW2 m0 m1 m2 : Nat), .int .u64 (cW2 m0 m1 m2 : Nat)])) W at A2
  obtain ⟨c3, hc3⟩ : ∃ c3, c3 = aC (m3 % 18446744073709551616) (m2 / 18446744073709551616) (cW2 m0 m1 m2) := ⟨_, rfl⟩
  rw [← hc3] at A3
  change ∀ W, Sem.run _ _ W = .ok (Next.value (.tuple #[.int .u64 (tW3 m0 m1 m2 m3 : Nat), .int .u64 (c3 : Nat)])) W at A3
  have e0l : loW a0 r0 = m0 % 18446744073709551616 := by unfold loW; rw [hm0]
  have e0h : hiW a0 r0 = m0 / 18446744073709551616 := by unfold hiW; rw [hm0]
  have e3l : loW a2 r1 = m3 % 18446744073709551616 := by unfold loW; rw [hm3]
  have e3h : hiW a2 r1 = m3 / 18446744073709551616 := by unfold hiW; rw [hm3]
  rw [e0l, e0h] at T0
  rw [e3l, e3h] at T5
  clear e0l e0h e3l e3h hm0 hm1 hm2 hm3 hV hc3 b0 b1 b2 b3 b4 cc1 cc2
  have hlow := fun h => words_low (m0 % 18446744073709551616) (tW1 m0 m1) (tW2 m0 m1 m2) (tW3 m0 m1 m2 m3) V wt0 wt1 wt2 h
  have hlow := hlow hsum
  clear hsum
  generalize tW1 m0 m1 = t1 at *
  generalize tW2 m0 m1 m2 = t2 at *
  generalize tW3 m0 m1 m2 m3 = t3 at *
  generalize cW1 m0 m1 = c1 at *
  generalize cW2 m0 m1 m2 = c2 at *
  generalize m0 % 18446744073709551616 = t0 at *
  generalize m0 / 18446744073709551616 = m0h at *
  generalize m1 % 18446744073709551616 = m1l at *
  generalize m1 / 18446744073709551616 = m1h at *
  generalize m2 % 18446744073709551616 = m2l at *
  generalize m2 / 18446744073709551616 = m2h at *
  generalize m3 % 18446744073709551616 = m3l at *
  generalize m3 / 18446744073709551616 = m3h at *
  have HL := Lib.hid hlow; have HWD := Lib.hid (And.intro wt0 (And.intro wt1 (And.intro wt2 wt3)))
  have HA1 := Lib.hid A1; have HA2 := Lib.hid A2; have HA3 := Lib.hid A3
  clear hlow wt0 wt1 wt2 wt3 A1 A2 A3 d0 d1 d2 e2 k0 k1 h0 h1
  have hc : ∀ W, Below w.heap.size w W → W.cell? ⟨g, 0, none⟩ = some (.int .u64 a0) ∧ W.cell? ⟨g, 1, none⟩ = some (.int .u64 a1) ∧ W.cell? ⟨g, 2, none⟩ = some (.int .u64 a2) ∧ W.cell? ⟨g, 3, none⟩ = some (.int .u64 r0) ∧ W.cell? ⟨g, 4, none⟩ = some (.int .u64 r1) :=
    fun W h => raw_cells (Upd.start (hS.below h hS.inside))
  have HC := Lib.hid hc; have HS := Lib.hid hS
  have HB := Lib.hid (Below.refl w.heap.size w)
  clear hc hS
  go_enter Tryz.func85, Tryz.ntmps85
  go_wp2_with fail
  refine wp_region_loud 11 (Mk w 182) none (by kernel_rfl) (by kernel_rfl) (Mk.start _ _) ?_
  refine wpHead_step (fun K hK => ?_)
  refine head_want (by kernel_rfl) ⟨(.pointer (some ⟨g, 0, none⟩)), fun s W hW => ?_, ?_⟩
  · have hW := Mk.base hW
    refine quietAt_val ?_
    go_simp
  go_simp
  refine hK _ ?_
  clear hK K
  refine wpHead_step (fun K hK => ?_)
  refine head_want (by kernel_rfl) ⟨(.pointer (some ⟨g, 0, none⟩)), fun s W hW => ?_, ?_⟩
  · have hW := Mk.base hW
    refine quietAt_val ?_
    go_simp
  go_simp
  refine hK _ ?_
  clear hK K
  refine wpHead_step (fun K hK => ?_)
  refine head_want (by kernel_rfl) ⟨(.pointer (some ⟨g, 0, none⟩)), fun s W hW => ?_, ?_⟩
  · have hW := Mk.base hW
    refine quietAt_val ?_
    go_simp
  go_simp
  refine hK _ ?_
  clear hK K
  refine wpHead_step (fun K hK => ?_)
  refine head_want (by kernel_rfl) ⟨(.pointer (some ⟨g, 0, none⟩)), fun s W hW => ?_, ?_⟩
  · have hW := Mk.base hW
    refine quietAt_val ?_
    go_simp
  go_simp
  refine hK _ ?_
  clear hK K
  refine wpHead_step (fun K hK => ?_)
  refine head_want (by kernel_rfl) ⟨(.int .u64 a0), fun s W hW => ?_, ?_⟩
  · have hW := Mk.base hW
    refine quietAt_val ?_
    have hk := (HC.out W (HB.out.trans (hW.mono HB.out.size))).1
    go_simp
  go_simp
  refine hK _ ?_
  clear hK K
  refine wpHead_step (fun K hK => ?_)
  refine head_want (by kernel_rfl) ⟨(.pointer (some ⟨g, 0, none⟩)), fun s W hW => ?_, ?_⟩
  · have hW := Mk.base hW
    refine quietAt_val ?_
    go_simp
  go_simp
  refine hK _ ?_
  clear hK K
  refine wpHead_step (fun K hK => ?_)
  refine head_want (by kernel_rfl) ⟨(.pointer (some ⟨g, 0, none⟩)), fun s W hW => ?_, ?_⟩
  · have hW := Mk.base hW
    refine quietAt_val ?_
    go_simp
  go_simp
  refine hK _ ?_
  clear hK K
  refine wpHead_step (fun K hK => ?_)
  refine head_want (by kernel_rfl) ⟨(.pointer (some ⟨g, 3, none⟩)), fun s W hW => ?_, ?_⟩
  · have hW := Mk.base hW
    refine quietAt_val ?_
    go_simp
  go_simp
  refine hK _ ?_
  clear hK K
  refine wpHead_step (fun K hK => ?_)
  refine head_want (by kernel_rfl) ⟨(.pointer (some ⟨g, 3, none⟩)), fun s W hW => ?_, ?_⟩
  · have hW := Mk.base hW
    refine quietAt_val ?_
    go_simp
  go_simp
  refine hK _ ?_
  clear hK K
  refine wpHead_step (fun K hK => ?_)
  refine head_want (by kernel_rfl) ⟨(.int .u64 r0), fun s W hW => ?_, ?_⟩
  · have hW := Mk.base hW
    refine quietAt_val ?_
    have hk := (HC.out W (HB.out.trans (hW.mono HB.out.size))).2.2.2.1
    go_simp
  go_simp
  refine hK _ ?_
  clear hK K
  refine wpHead_step (fun K hK => ?_)
  refine head_want (by kernel_rfl) ⟨(wideV t0 m0h), fun s W hW => ?_, ?_⟩
  · refine head_call (f := 100) (args := (#[.int .u64 a0, .int .u64 r0])) (by go_simp) hW ?_
    have hW := Mk.base hW
    exact T0.out W
  go_simp
  refine hK _ ?_
  clear hK K
  refine wpHead_nil ?_
  refine loud_row (.tmp 21) 2 #[.int .u64 0, .int .u64 0] #[.int .u64 t0, .int .u64 m0h] (by kernel_rfl) rfl (fun W => by go_simp) (fun p => by kernel_rfl) rfl rfl (fun p => by rfl) (fun p => by rfl) (by kernel_rfl) rfl (wide_one _ _) (fun p2 => ?_)
  intro W1 ⟨hB1, hp1, hw1⟩
  have HW2 := Lib.hid hw1
  have HB := Lib.hid (HB.out.trans (hB1.mono HB.out.size))
  clear hw1 hB1 hp1
  go_wp2_with fail
  refine wp_region_loud 23 (Mk W1 182) none (by kernel_rfl) (by kernel_rfl) (Mk.start _ _) ?_
  refine wpHead_step (fun K hK => ?_)
  refine head_want (by kernel_rfl) ⟨(.pointer (some ⟨g, 0, none⟩)), fun s W hW => ?_, ?_⟩
  · have hW := Mk.base hW
    refine quietAt_val ?_
    go_simp
  go_simp
  refine hK _ ?_
  clear hK K
  refine wpHead_step (fun K hK => ?_)
  refine head_want (by kernel_rfl) ⟨(.pointer (some ⟨g, 0, none⟩)), fun s W hW => ?_, ?_⟩
  · have hW := Mk.base hW
    refine quietAt_val ?_
    go_simp
  go_simp
  refine hK _ ?_
  clear hK K
  refine wpHead_step (fun K hK => ?_)
  refine head_want (by kernel_rfl) ⟨(.pointer (some ⟨g, 0, none⟩)), fun s W hW => ?_, ?_⟩
  · have hW := Mk.base hW
    refine quietAt_val ?_
    go_simp
  go_simp
  refine hK _ ?_
  clear hK K
  refine wpHead_step (fun K hK => ?_)
  refine head_want (by kernel_rfl) ⟨(.pointer (some ⟨g, 1, none⟩)), fun s W hW => ?_, ?_⟩
  · have hW := Mk.base hW
    refine quietAt_val ?_
    go_simp
  go_simp
  refine hK _ ?_
  clear hK K
  refine wpHead_step (fun K hK => ?_)
  refine head_want (by kernel_rfl) ⟨(.int .u64 a1), fun s W hW => ?_, ?_⟩
  · have hW := Mk.base hW
    refine quietAt_val ?_
    have hk := (HC.out W (HB.out.trans (hW.mono HB.out.size))).2.1
    go_simp
  go_simp
  refine hK _ ?_
  clear hK K
  refine wpHead_step (fun K hK => ?_)
  refine head_want (by kernel_rfl) ⟨(.pointer (some ⟨g, 0, none⟩)), fun s W hW => ?_, ?_⟩
  · have hW := Mk.base hW
    refine quietAt_val ?_
    go_simp
  go_simp
  refine hK _ ?_
  clear hK K
  refine wpHead_step (fun K hK => ?_)
  refine head_want (by kernel_rfl) ⟨(.pointer (some ⟨g, 0, none⟩)), fun s W hW => ?_, ?_⟩
  · have hW := Mk.base hW
    refine quietAt_val ?_
    go_simp
  go_simp
  refine hK _ ?_
  clear hK K
  refine wpHead_step (fun K hK => ?_)
  refine head_want (by kernel_rfl) ⟨(.pointer (some ⟨g, 3, none⟩)), fun s W hW => ?_, ?_⟩
  · have hW := Mk.base hW
    refine quietAt_val ?_
    go_simp
  go_simp
  refine hK _ ?_
  clear hK K
  refine wpHead_step (fun K hK => ?_)
  refine head_want (by kernel_rfl) ⟨(.pointer (some ⟨g, 3, none⟩)), fun s W hW => ?_, ?_⟩
  · have hW := Mk.base hW
    refine quietAt_val ?_
    go_simp
  go_simp
  refine hK _ ?_
  clear hK K
  refine wpHead_step (fun K hK => ?_)
  refine head_want (by kernel_rfl) ⟨(.int .u64 r0), fun s W hW => ?_, ?_⟩
  · have hW := Mk.base hW
    refine quietAt_val ?_
    have hk := (HC.out W (HB.out.trans (hW.mono HB.out.size))).2.2.2.1
    go_simp
  go_simp
  refine hK _ ?_
  clear hK K
  refine wpHead_step (fun K hK => ?_)
  refine head_want (by kernel_rfl) ⟨(wideV (loW a1 r0) (hiW a1 r0)), fun s W hW => ?_, ?_⟩
  · refine head_call (f := 100) (args := (#[.int .u64 a1, .int .u64 r0])) (by go_simp) hW ?_
    have hW := Mk.base hW
    exact T1.out W
  go_simp
  refine hK _ ?_
  clear hK K
  refine wpHead_step (fun K hK => ?_)
  refine head_want (by kernel_rfl) ⟨(.pointer (some ⟨g, 0, none⟩)), fun s W hW => ?_, ?_⟩
  · have hW := Mk.base hW
    refine quietAt_val ?_
    go_simp
  go_simp
  refine hK _ ?_
  clear hK K
  refine wpHead_step (fun K hK => ?_)
  refine head_want (by kernel_rfl) ⟨(.pointer (some ⟨g, 0, none⟩)), fun s W hW => ?_, ?_⟩
  · have hW := Mk.base hW
    refine quietAt_val ?_
    go_simp
  go_simp
  refine hK _ ?_
  clear hK K
  refine wpHead_step (fun K hK => ?_)
  refine head_want (by kernel_rfl) ⟨(.pointer (some ⟨g, 0, none⟩)), fun s W hW => ?_, ?_⟩
  · have hW := Mk.base hW
    refine quietAt_val ?_
    go_simp
  go_simp
  refine hK _ ?_
  clear hK K
  refine wpHead_step (fun K hK => ?_)
  refine head_want (by kernel_rfl) ⟨(.pointer (some ⟨g, 0, none⟩)), fun s W hW => ?_, ?_⟩
  · have hW := Mk.base hW
    refine quietAt_val ?_
    go_simp
  go_simp
  refine hK _ ?_
  clear hK K
  refine wpHead_step (fun K hK => ?_)
  refine head_want (by kernel_rfl) ⟨(.int .u64 a0), fun s W hW => ?_, ?_⟩
  · have hW := Mk.base hW
    refine quietAt_val ?_
    have hk := (HC.out W (HB.out.trans (hW.mono HB.out.size))).1
    go_simp
  go_simp
  refine hK _ ?_
  clear hK K
  refine wpHead_step (fun K hK => ?_)
  refine head_want (by kernel_rfl) ⟨(.pointer (some ⟨g, 0, none⟩)), fun s W hW => ?_, ?_⟩
  · have hW := Mk.base hW
    refine quietAt_val ?_
    go_simp
  go_simp
  refine hK _ ?_
  clear hK K
  refine wpHead_step (fun K hK => ?_)
  refine head_want (by kernel_rfl) ⟨(.pointer (some ⟨g, 0, none⟩)), fun s W hW => ?_, ?_⟩
  · have hW := Mk.base hW
    refine quietAt_val ?_
    go_simp
  go_simp
  refine hK _ ?_
  clear hK K
  refine wpHead_step (fun K hK => ?_)
  refine head_want (by kernel_rfl) ⟨(.pointer (some ⟨g, 3, none⟩)), fun s W hW => ?_, ?_⟩
  · have hW := Mk.base hW
    refine quietAt_val ?_
    go_simp
  go_simp
  refine hK _ ?_
  clear hK K
  refine wpHead_step (fun K hK => ?_)
  refine head_want (by kernel_rfl) ⟨(.pointer (some ⟨g, 4, none⟩)), fun s W hW => ?_, ?_⟩
  · have hW := Mk.base hW
    refine quietAt_val ?_
    go_simp
  go_simp
  refine hK _ ?_
  clear hK K
  refine wpHead_step (fun K hK => ?_)
  refine head_want (by kernel_rfl) ⟨(.int .u64 r1), fun s W hW => ?_, ?_⟩
  · have hW := Mk.base hW
    refine quietAt_val ?_
    have hk := (HC.out W (HB.out.trans (hW.mono HB.out.size))).2.2.2.2
    go_simp
  go_simp
  refine hK _ ?_
  clear hK K
  refine wpHead_step (fun K hK => ?_)
  refine head_want (by kernel_rfl) ⟨(wideV (loW a0 r1) (hiW a0 r1)), fun s W hW => ?_, ?_⟩
  · refine head_call (f := 100) (args := (#[.int .u64 a0, .int .u64 r1])) (by go_simp) hW ?_
    have hW := Mk.base hW
    exact T2.out W
  go_simp
  refine hK _ ?_
  clear hK K
  refine wpHead_step (fun K hK => ?_)
  refine head_want (by kernel_rfl) ⟨(wideV m1l m1h), fun s W hW => ?_, ?_⟩
  · refine head_call (f := 101) (args := (#[wideV (loW a1 r0) (hiW a1 r0), wideV (loW a0 r1) (hiW a0 r1)])) (by go_simp) hW ?_
    have hW := Mk.base hW
    exact P1.out W
  go_simp
  refine hK _ ?_
  clear hK K
  refine wpHead_nil ?_
  refine loud_row (.tmp 44) 3 #[.int .u64 0, .int .u64 0] #[.int .u64 m1l, .int .u64 m1h] (by kernel_rfl) rfl (fun W => by go_simp) (fun p => by kernel_rfl) rfl rfl (fun p => by rfl) (fun p => by rfl) (by kernel_rfl) rfl (wide_one _ _) (fun p3 => ?_)
  intro W2 ⟨hB1, hp1, hw1⟩
  have HW3 := Lib.hid hw1
  have HW2 := Lib.hid (HW2.out.below hB1 HW2.out.inside)
  have HB := Lib.hid (HB.out.trans (hB1.mono HB.out.size))
  clear hw1 hB1 hp1
  go_wp2_with fail
  refine wp_region_loud 23 (Mk W2 182) none (by kernel_rfl) (by kernel_rfl) (Mk.start _ _) ?_
  refine wpHead_step (fun K hK => ?_)
  refine head_want (by kernel_rfl) ⟨(.pointer (some ⟨g, 0, none⟩)), fun s W hW => ?_, ?_⟩
  · have hW := Mk.base hW
    refine quietAt_val ?_
    go_simp
  go_simp
  refine hK _ ?_
  clear hK K
  refine wpHead_step (fun K hK => ?_)
  refine head_want (by kernel_rfl) ⟨(.pointer (some ⟨g, 0, none⟩)), fun s W hW => ?_, ?_⟩
  · have hW := Mk.base hW
    refine quietAt_val ?_
    go_simp
  go_simp
  refine hK _ ?_
  clear hK K
  refine wpHead_step (fun K hK => ?_)
  refine head_want (by kernel_rfl) ⟨(.pointer (some ⟨g, 0, none⟩)), fun s W hW => ?_, ?_⟩
  · have hW := Mk.base hW
    refine quietAt_val ?_
    go_simp
  go_simp
  refine hK _ ?_
  clear hK K
  refine wpHead_step (fun K hK => ?_)
  refine head_want (by kernel_rfl) ⟨(.pointer (some ⟨g, 2, none⟩)), fun s W hW => ?_, ?_⟩
  · have hW := Mk.base hW
    refine quietAt_val ?_
    go_simp
  go_simp
  refine hK _ ?_
  clear hK K
  refine wpHead_step (fun K hK => ?_)
  refine head_want (by kernel_rfl) ⟨(.int .u64 a2), fun s W hW => ?_, ?_⟩
  · have hW := Mk.base hW
    refine quietAt_val ?_
    have hk := (HC.out W (HB.out.trans (hW.mono HB.out.size))).2.2.1
    go_simp
  go_simp
  refine hK _ ?_
  clear hK K
  refine wpHead_step (fun K hK => ?_)
  refine head_want (by kernel_rfl) ⟨(.pointer (some ⟨g, 0, none⟩)), fun s W hW => ?_, ?_⟩
  · have hW := Mk.base hW
    refine quietAt_val ?_
    go_simp
  go_simp
  refine hK _ ?_
  clear hK K
  refine wpHead_step (fun K hK => ?_)
  refine head_want (by kernel_rfl) ⟨(.pointer (some ⟨g, 0, none⟩)), fun s W hW => ?_, ?_⟩
  · have hW := Mk.base hW
    refine quietAt_val ?_
    go_simp
  go_simp
  refine hK _ ?_
  clear hK K
  refine wpHead_step (fun K hK => ?_)
  refine head_want (by kernel_rfl) ⟨(.pointer (some ⟨g, 3, none⟩)), fun s W hW => ?_, ?_⟩
  · have hW := Mk.base hW
    refine quietAt_val ?_
    go_simp
  go_simp
  refine hK _ ?_
  clear hK K
  refine wpHead_step (fun K hK => ?_)
  refine head_want (by kernel_rfl) ⟨(.pointer (some ⟨g, 3, none⟩)), fun s W hW => ?_, ?_⟩
  · have hW := Mk.base hW
    refine quietAt_val ?_
    go_simp
  go_simp
  refine hK _ ?_
  clear hK K
  refine wpHead_step (fun K hK => ?_)
  refine head_want (by kernel_rfl) ⟨(.int .u64 r0), fun s W hW => ?_, ?_⟩
  · have hW := Mk.base hW
    refine quietAt_val ?_
    have hk := (HC.out W (HB.out.trans (hW.mono HB.out.size))).2.2.2.1
    go_simp
  go_simp
  refine hK _ ?_
  clear hK K
  refine wpHead_step (fun K hK => ?_)
  refine head_want (by kernel_rfl) ⟨(wideV (loW a2 r0) (hiW a2 r0)), fun s W hW => ?_, ?_⟩
  · refine head_call (f := 100) (args := (#[.int .u64 a2, .int .u64 r0])) (by go_simp) hW ?_
    have hW := Mk.base hW
    exact T3.out W
  go_simp
  refine hK _ ?_
  clear hK K
  refine wpHead_step (fun K hK => ?_)
  refine head_want (by kernel_rfl) ⟨(.pointer (some ⟨g, 0, none⟩)), fun s W hW => ?_, ?_⟩
  · have hW := Mk.base hW
    refine quietAt_val ?_
    go_simp
  go_simp
  refine hK _ ?_
  clear hK K
  refine wpHead_step (fun K hK => ?_)
  refine head_want (by kernel_rfl) ⟨(.pointer (some ⟨g, 0, none⟩)), fun s W hW => ?_, ?_⟩
  · have hW := Mk.base hW
    refine quietAt_val ?_
    go_simp
  go_simp
  refine hK _ ?_
  clear hK K
  refine wpHead_step (fun K hK => ?_)
  refine head_want (by kernel_rfl) ⟨(.pointer (some ⟨g, 0, none⟩)), fun s W hW => ?_, ?_⟩
  · have hW := Mk.base hW
    refine quietAt_val ?_
    go_simp
  go_simp
  refine hK _ ?_
  clear hK K
  refine wpHead_step (fun K hK => ?_)
  refine head_want (by kernel_rfl) ⟨(.pointer (some ⟨g, 1, none⟩)), fun s W hW => ?_, ?_⟩
  · have hW := Mk.base hW
    refine quietAt_val ?_
    go_simp
  go_simp
  refine hK _ ?_
  clear hK K
  refine wpHead_step (fun K hK => ?_)
  refine head_want (by kernel_rfl) ⟨(.int .u64 a1), fun s W hW => ?_, ?_⟩
  · have hW := Mk.base hW
    refine quietAt_val ?_
    have hk := (HC.out W (HB.out.trans (hW.mono HB.out.size))).2.1
    go_simp
  go_simp
  refine hK _ ?_
  clear hK K
  refine wpHead_step (fun K hK => ?_)
  refine head_want (by kernel_rfl) ⟨(.pointer (some ⟨g, 0, none⟩)), fun s W hW => ?_, ?_⟩
  · have hW := Mk.base hW
    refine quietAt_val ?_
    go_simp
  go_simp
  refine hK _ ?_
  clear hK K
  refine wpHead_step (fun K hK => ?_)
  refine head_want (by kernel_rfl) ⟨(.pointer (some ⟨g, 0, none⟩)), fun s W hW => ?_, ?_⟩
  · have hW := Mk.base hW
    refine quietAt_val ?_
    go_simp
  go_simp
  refine hK _ ?_
  clear hK K
  refine wpHead_step (fun K hK => ?_)
  refine head_want (by kernel_rfl) ⟨(.pointer (some ⟨g, 3, none⟩)), fun s W hW => ?_, ?_⟩
  · have hW := Mk.base hW
    refine quietAt_val ?_
    go_simp
  go_simp
  refine hK _ ?_
  clear hK K
  refine wpHead_step (fun K hK => ?_)
  refine head_want (by kernel_rfl) ⟨(.pointer (some ⟨g, 4, none⟩)), fun s W hW => ?_, ?_⟩
  · have hW := Mk.base hW
    refine quietAt_val ?_
    go_simp
  go_simp
  refine hK _ ?_
  clear hK K
  refine wpHead_step (fun K hK => ?_)
  refine head_want (by kernel_rfl) ⟨(.int .u64 r1), fun s W hW => ?_, ?_⟩
  · have hW := Mk.base hW
    refine quietAt_val ?_
    have hk := (HC.out W (HB.out.trans (hW.mono HB.out.size))).2.2.2.2
    go_simp
  go_simp
  refine hK _ ?_
  clear hK K
  refine wpHead_step (fun K hK => ?_)
  refine head_want (by kernel_rfl) ⟨(wideV (loW a1 r1) (hiW a1 r1)), fun s W hW => ?_, ?_⟩
  · refine head_call (f := 100) (args := (#[.int .u64 a1, .int .u64 r1])) (by go_simp) hW ?_
    have hW := Mk.base hW
    exact T4.out W
  go_simp
  refine hK _ ?_
  clear hK K
  refine wpHead_step (fun K hK => ?_)
  refine head_want (by kernel_rfl) ⟨(wideV m2l m2h), fun s W hW => ?_, ?_⟩
  · refine head_call (f := 101) (args := (#[wideV (loW a2 r0) (hiW a2 r0), wideV (loW a1 r1) (hiW a1 r1)])) (by go_simp) hW ?_
    have hW := Mk.base hW
    exact P2.out W
  go_simp
  refine hK _ ?_
  clear hK K
  refine wpHead_nil ?_
  refine loud_row (.tmp 67) 4 #[.int .u64 0, .int .u64 0] #[.int .u64 m2l, .int .u64 m2h] (by kernel_rfl) rfl (fun W => by go_simp) (fun p => by kernel_rfl) rfl rfl (fun p => by rfl) (fun p => by rfl) (by kernel_rfl) rfl (wide_one _ _) (fun p4 => ?_)
  intro W3 ⟨hB1, hp1, hw1⟩
  have HW4 := Lib.hid hw1
  have HW3 := Lib.hid (HW3.out.below hB1 HW3.out.inside)
  have HW2 := Lib.hid (HW2.out.below hB1 HW2.out.inside)
  have HB := Lib.hid (HB.out.trans (hB1.mono HB.out.size))
  clear hw1 hB1 hp1
  go_wp2_with fail
  refine wp_region_loud 11 (Mk W3 182) none (by kernel_rfl) (by kernel_rfl) (Mk.start _ _) ?_
  refine wpHead_step (fun K hK => ?_)
  refine head_want (by kernel_rfl) ⟨(.pointer (some ⟨g, 0, none⟩)), fun s W hW => ?_, ?_⟩
  · have hW := Mk.base hW
    refine quietAt_val ?_
    go_simp
  go_simp
  refine hK _ ?_
  clear hK K
  refine wpHead_step (fun K hK => ?_)
  refine head_want (by kernel_rfl) ⟨(.pointer (some ⟨g, 0, none⟩)), fun s W hW => ?_, ?_⟩
  · have hW := Mk.base hW
    refine quietAt_val ?_
    go_simp
  go_simp
  refine hK _ ?_
  clear hK K
  refine wpHead_step (fun K hK => ?_)
  refine head_want (by kernel_rfl) ⟨(.pointer (some ⟨g, 0, none⟩)), fun s W hW => ?_, ?_⟩
  · have hW := Mk.base hW
    refine quietAt_val ?_
    go_simp
  go_simp
  refine hK _ ?_
  clear hK K
  refine wpHead_step (fun K hK => ?_)
  refine head_want (by kernel_rfl) ⟨(.pointer (some ⟨g, 2, none⟩)), fun s W hW => ?_, ?_⟩
  · have hW := Mk.base hW
    refine quietAt_val ?_
    go_simp
  go_simp
  refine hK _ ?_
  clear hK K
  refine wpHead_step (fun K hK => ?_)
  refine head_want (by kernel_rfl) ⟨(.int .u64 a2), fun s W hW => ?_, ?_⟩
  · have hW := Mk.base hW
    refine quietAt_val ?_
    have hk := (HC.out W (HB.out.trans (hW.mono HB.out.size))).2.2.1
    go_simp
  go_simp
  refine hK _ ?_
  clear hK K
  refine wpHead_step (fun K hK => ?_)
  refine head_want (by kernel_rfl) ⟨(.pointer (some ⟨g, 0, none⟩)), fun s W hW => ?_, ?_⟩
  · have hW := Mk.base hW
    refine quietAt_val ?_
    go_simp
  go_simp
  refine hK _ ?_
  clear hK K
  refine wpHead_step (fun K hK => ?_)
  refine head_want (by kernel_rfl) ⟨(.pointer (some ⟨g, 0, none⟩)), fun s W hW => ?_, ?_⟩
  · have hW := Mk.base hW
    refine quietAt_val ?_
    go_simp
  go_simp
  refine hK _ ?_
  clear hK K
  refine wpHead_step (fun K hK => ?_)
  refine head_want (by kernel_rfl) ⟨(.pointer (some ⟨g, 3, none⟩)), fun s W hW => ?_, ?_⟩
  · have hW := Mk.base hW
    refine quietAt_val ?_
    go_simp
  go_simp
  refine hK _ ?_
  clear hK K
  refine wpHead_step (fun K hK => ?_)
  refine head_want (by kernel_rfl) ⟨(.pointer (some ⟨g, 4, none⟩)), fun s W hW => ?_, ?_⟩
  · have hW := Mk.base hW
    refine quietAt_val ?_
    go_simp
  go_simp
  refine hK _ ?_
  clear hK K
  refine wpHead_step (fun K hK => ?_)
  refine head_want (by kernel_rfl) ⟨(.int .u64 r1), fun s W hW => ?_, ?_⟩
  · have hW := Mk.base hW
    refine quietAt_val ?_
    have hk := (HC.out W (HB.out.trans (hW.mono HB.out.size))).2.2.2.2
    go_simp
  go_simp
  refine hK _ ?_
  clear hK K
  refine wpHead_step (fun K hK => ?_)
  refine head_want (by kernel_rfl) ⟨(wideV m3l m3h), fun s W hW => ?_, ?_⟩
  · refine head_call (f := 100) (args := (#[.int .u64 a2, .int .u64 r1])) (by go_simp) hW ?_
    have hW := Mk.base hW
    exact T5.out W
  go_simp
  refine hK _ ?_
  clear hK K
  refine wpHead_nil ?_
  refine loud_row (.tmp 78) 5 #[.int .u64 0, .int .u64 0] #[.int .u64 m3l, .int .u64 m3h] (by kernel_rfl) rfl (fun W => by go_simp) (fun p => by kernel_rfl) rfl rfl (fun p => by rfl) (fun p => by rfl) (by kernel_rfl) rfl (wide_one _ _) (fun p5 => ?_)
  intro W4 ⟨hB1, hp1, hw1⟩
  obtain ⟨x50, x51⟩ := wide_cells hw1
  obtain ⟨x40, x41⟩ := wide_cells (HW4.out.below hB1 HW4.out.inside)
  obtain ⟨x30, x31⟩ := wide_cells (HW3.out.below hB1 HW3.out.inside)
  obtain ⟨x20, x21⟩ := wide_cells (HW2.out.below hB1 HW2.out.inside)
  have HB := Lib.hid (HB.out.trans (hB1.mono HB.out.size))
  clear hw1 hB1 hp1
  have U0 := Upd.start (HS.out.below HB.out HS.out.inside)
  have f0 := U0.frozen 0; have f1 := U0.frozen 1; have f2 := U0.frozen 2
  obtain ⟨k0, k1, k2, k3, k4⟩ := raw_cells U0
  have y1 := HA1.out; have y2 := HA2.out; have y3 := HA3.out
  have q3 := u64_and3 t2 HWD.out.2.2.1
  rw [show ((t2 % 4 : Nat) : Int) = (t2 : Int) % 4 by omega] at q3
  have qn := u64_andNot3 t2 HWD.out.2.2.1
  go_wp2_with fail
  have e5 : rawI t0 t1 (t2 % 4) r0 r1 = sumI (of3 t0 t1 (t2 % 4)) r0 r1 := by
    rw [← rawI_of, of3_w0 _ _ _ HWD.out.1, of3_w1 _ _ _ HWD.out.1 HWD.out.2.1, of3_w2 _ _ _ HWD.out.1 HWD.out.2.1 (by unfold Wd; omega)]
  have U5 : Upd W4 _ g t .u64 (rawI t0 t1 (t2 % 4) r0 r1) := ((U0.set 0 (t0 : Nat)).set 1 (t1 : Nat)).set 2 ((t2 % 4 : Nat) : Int)
  rw [show ((t2 % 4 : Nat) : Int) = (t2 : Int) % 4 by omega, e5] at U5
  clear e5 q3 qn y1 y2 y3 k0 k1 k2 k3 k4 f0 f1 f2 x20 x21 x30 x31 x40 x41 x50 x51
  generalize (((W4.setCell ⟨g, 0, none⟩ (.int .u64 (t0 : Nat))).setCell ⟨g, 1, none⟩ (.int .u64 (t1 : Nat))).setCell ⟨g, 2, none⟩ (.int .u64 ((t2 : Int) % 4))) = W5 at U5 ⊢
  have HU5 := Lib.hid U5
  clear U5 U0
  refine (sadd_calls g t _ r0 r1 (t2 - t2 % 4) t3 0 (by have := HWD.out.2.2.1; unfold Wd at *; omega) HWD.out.2.2.2 (by decide) W5 HU5.out.blk).mono ?_
  rintro e W6 ⟨rfl, U6⟩
  have HU6 := Lib.hid U6
  clear U6
  go_wp2_with fail
  have hb : bits .or .u64 ((t2 : Int) / 4) (IntKind.u64.wrap ((t3 : Int) * 4611686018427387904)) = ((t2 / 4 + t3 % 4 * 4611686018427387904 : Nat) : Int) := by
    have := HWD.out.2.2.1; have := HWD.out.2.2.2
    unfold Wd at *
    rw [← u64_or62 (t2 / 4) (t3 % 4) (by omega) (by omega)]
    congr 1
    rw [IntKind.wrap_u64]
    omega
  rw [hb, show ((t3 : Int) / 4) = ((t3 / 4 : Nat) : Int) by omega]
  clear hb
  refine (sadd_calls g t _ r0 r1 (t2 / 4 + t3 % 4 * 4611686018427387904) (t3 / 4) 0 (by have := HWD.out.2.2.1; unfold Wd at *; omega) (by have := HWD.out.2.2.2; unfold Wd at *; omega) (by decide) W6 HU6.out.blk).mono ?_
  rw [HL.out]
  rintro e W7 ⟨rfl, U7⟩
  have HU7 := Lib.hid U7
  clear U7
  go_wp2_with fail
  go_end0
  exact ⟨rfl, only_trans (only_trans (only_trans (only_of_below HB.out (some g)) HU5.out.only) HU6.out.only) HU7.out.only, HU7.out.blk⟩
end Go.Proofs.YtfoljmpphbhobaaGreatDoor
