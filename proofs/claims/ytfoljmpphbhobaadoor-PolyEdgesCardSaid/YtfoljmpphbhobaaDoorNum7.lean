/- What the reference's Mul reckons: the plain laws of its loops. -/
import Derived.Test.YtfoljmpphbhobaaDoorNum6
namespace Go.Proofs.YtfoljmpphbhobaaDoor
open Go.RowKit Go.Spk
set_option linter.unusedVariables false
theorem pv_set (f : Nat → Int) (k : Nat) (v : Int) (n : Nat) (hk : k < n) : pv (fun i => if i = k then v else f i) n = pv f n + (v - f k) * 65536 ^ k := by
  induction n with
  | zero => omega
  | succ n ih =>
    rw [pv, pv]
    by_cases e : k = n
    · subst e
      rw [if_pos rfl, pv_congr (g := f) (fun i hi => if_neg (by omega)), Int.sub_mul]
      omega
    · rw [ih (by omega), if_neg (by omega)]
      omega
theorem nv_set (xs : List Int) (k : Nat) (v : Int) (hk : k < xs.length) : nv (xs.set k v) = nv xs + (v - ix xs k) * 65536 ^ k := by
  unfold nv
  rw [List.length_set, ← pv_set _ _ _ _ hk]
  refine pv_congr fun i hi => ?_
  rw [ix_set _ _ _ _ hk]
theorem digs_set {xs : List Int} {k : Nat} {v : Int} (h : Digs xs) (hk : k < xs.length) (h0 : 0 ≤ v) (h1 : v < 65536) : Digs (xs.set k v) := by
  intro i
  rw [ix_set _ _ _ _ hk]
  split
  · exact ⟨h0, h1⟩
  · exact h i
/-- What the out's number and the carry make together: in row i, behind j digits of b. -/
def mulR (a b i j : Nat) : Int := ((a % 65536 ^ i : Nat) : Int) * b + ix (dg a) i * 65536 ^ i * ((b % 65536 ^ j : Nat) : Int)
theorem mulR_zero (a b i : Nat) : mulR a b i 0 = ((a % 65536 ^ i : Nat) : Int) * b := by simp [mulR, Nat.mod_one]
theorem mod_succ (b j : Nat) : ((b % 65536 ^ (j + 1) : Nat) : Int) = ((b % 65536 ^ j : Nat) : Int) + 65536 ^ j * ix (dg b) j := by
  rw [ix_dg, Nat.pow_succ, Nat.mod_mul]
  simp
theorem mulR_step (a b i j : Nat) : mulR a b i (j + 1) = mulR a b i j + ix (dg a) i * ix (dg b) j * 65536 ^ (i + j) := by
  unfold mulR
  rw [mod_succ, Int.mul_add, Int.pow_add]
  have : ix (dg a) i * 65536 ^ i * (65536 ^ j * ix (dg b) j) = ix (dg a) i * ix (dg b) j * (65536 ^ i * 65536 ^ j) := by
    simp only [Int.mul_assoc, Int.mul_left_comm, Int.mul_comm]
  rw [this]
  omega
theorem mulR_end (a b i j : Nat) (h : (dg b).length ≤ j) : mulR a b i j = ((a % 65536 ^ (i + 1) : Nat) : Int) * b := by
  unfold mulR
  have hb : b < 65536 ^ j := Nat.lt_of_lt_of_le (lt_pow_len b) (Nat.pow_le_pow_right (by decide) h)
  rw [Nat.mod_eq_of_lt hb, mod_succ, Int.add_mul]
  congr 1
  simp only [Int.mul_comm]
/-- One step of a row: o is the digit that stood there. -/
theorem mul_step {L : List Int} {k : Nat} {c R t x : Int} (hk : k < L.length) (hi : nv L + c * 65536 ^ k = R) (hx : x = ix L k + t + c) :
    nv (L.set k (x % 65536)) + x / 65536 * 65536 ^ (k + 1) = R + t * 65536 ^ k := by
  rw [nv_set _ _ _ hk, Int.pow_succ, ← hi]
  generalize (65536 : Int) ^ k = P
  have e : x = x % 65536 + 65536 * (x / 65536) := by omega
  generalize x % 65536 = v at *
  generalize x / 65536 = d at *
  have h2 : v - ix L k + 65536 * d = t + c := by omega
  have h3 : (v - ix L k) * P + d * (P * 65536) = (v - ix L k + 65536 * d) * P := by
    rw [Int.add_mul]
    congr 1
    simp only [Int.mul_comm, Int.mul_left_comm]
  have h4 : (t + c) * P = t * P + c * P := Int.add_mul ..
  rw [h2] at h3
  omega
/-- The carry has come to its end before the row's last digit. -/
theorem mul_room {L : List Int} {k i : Nat} {a b : Nat} {c : Int} (hd : Digs L) (hc : 0 < c) (hi : nv L + c * 65536 ^ k = ((a % 65536 ^ (i + 1) : Nat) : Int) * b) : k < i + 1 + (dg b).length := by
  refine Nat.lt_of_not_le fun hle => ?_
  have h0 := (pv_bd hd L.length).1
  have h1 : a % 65536 ^ (i + 1) < 65536 ^ (i + 1) := Nat.mod_lt _ (pow_pos' _)
  have h2 := lt_pow_len b
  have h3 : a % 65536 ^ (i + 1) * b < 65536 ^ k := by
    refine Nat.lt_of_lt_of_le (Nat.mul_lt_mul'' h1 h2) ?_
    rw [← Nat.pow_add]
    exact Nat.pow_le_pow_right (by decide) hle
  have h4 : ((65536 ^ k : Nat) : Int) = (65536 : Int) ^ k := by simp
  have h6 : ((a % 65536 ^ (i + 1) * b : Nat) : Int) = ((a % 65536 ^ (i + 1) : Nat) : Int) * b := Int.natCast_mul _ _
  rw [← h6, ← h4] at hi
  have h7 : nv L = pv (ix L) L.length := rfl
  rw [← h7] at h0
  generalize a % 65536 ^ (i + 1) * b = T at h3 hi
  generalize 65536 ^ k = P at h3 hi
  have h5 : (P : Int) ≤ c * P := by
    have := Int.mul_le_mul_of_nonneg_right (show (1 : Int) ≤ c by omega) (show (0 : Int) ≤ P by omega)
    omega
  generalize c * (P : Int) = X at *
  omega
end Go.Proofs.YtfoljmpphbhobaaDoor
