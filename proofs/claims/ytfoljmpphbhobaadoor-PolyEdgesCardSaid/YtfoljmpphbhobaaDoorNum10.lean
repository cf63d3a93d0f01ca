/- What the reference's Sum reckons: plain laws. -/
import Derived.Test.YtfoljmpphbhobaaDoorNum9
namespace Go.Proofs.YtfoljmpphbhobaaDoor
open Go.RowKit Go.Spk
set_option linter.unusedVariables false
/-- The prime. -/
def PP : Nat := P130 - 5
theorem pp_val : PP + 5 = P130 := by decide +kernel
theorem pp_pos : 5 < PP := by decide +kernel
/-- One reduction: what stands above 2^130 comes back five times. -/
def redN (v : Nat) : Nat := v % P130 + v / P130 * 5
theorem redN_lt {v : Nat} (h : P130 ≤ v) : redN v < v := by
  unfold redN
  have h1 := Nat.div_add_mod v P130
  have h2 := Nat.div_pos h (show 0 < P130 by decide +kernel)
  have h3 := Nat.mul_le_mul_right (v / P130) (show 6 ≤ P130 by decide +kernel)
  omega
theorem redN_mod (v : Nat) : redN v % PP = v % PP := by
  unfold redN
  have h1 := Nat.div_add_mod v P130
  have e : v = (v % P130 + v / P130 * 5) + PP * (v / P130) := by
    rw [← pp_val] at h1 ⊢
    rw [Nat.add_mul] at h1
    omega
  conv => rhs; rw [e]
  rw [Nat.add_mul_mod_self_left]
/-- The last step: at most once less the prime. -/
theorem last_mod {v : Nat} (h : v < P130) : (if PP ≤ v then v - PP else v) = v % PP := by
  have hv := pp_val
  have hp := pp_pos
  split
  · next hle => rw [Nat.mod_eq_sub_mod hle, Nat.mod_eq_of_lt (by omega)]
  · next hlt => rw [Nat.mod_eq_of_lt (by omega)]
theorem cmpN_ge (a b : Nat) : 0 ≤ cmpN a b ↔ b ≤ a := by
  unfold cmpN
  split
  · constructor <;> intro h <;> omega
  · split <;> constructor <;> intro h <;> omega
/-- The k-th part of 16 bytes, and the byte 1 behind it. -/
def partI (ws : List Int) (k : Nat) : List Int := (ws.drop (16 * k)).take 16 ++ [1]
/-- What is summed up behind k parts. -/
def accN (R : Nat) (ws : List Int) : Nat → Nat
  | 0 => 0
  | k + 1 => (accN R ws k + (nb (partI ws k)).toNat) * R % PP
theorem accN_lt (R : Nat) (ws : List Int) (k : Nat) : accN R ws k < PP := by
  cases k with
  | zero => exact Nat.lt_trans (show 0 < 5 by decide) pp_pos
  | succ k => exact Nat.mod_lt _ (Nat.lt_trans (by decide) pp_pos)
theorem nb_bd (bs : List Int) (h : ∀ b ∈ bs, 0 ≤ b ∧ b ≤ 255) : 0 ≤ nb bs ∧ nb bs < 256 ^ bs.length := by
  induction bs with
  | nil => simp [nb]
  | cons b bs ih =>
    have h0 := h b (by simp)
    have h1 := ih (fun x hx => h x (by simp [hx]))
    simp only [nb, List.length_cons, Int.pow_succ]
    generalize (256 : Int) ^ bs.length = P at *
    omega
theorem len_add (a b : Nat) : (dg (a + b)).length ≤ max (dg a).length (dg b).length + 1 := by
  have h1 := lt_pow_len a
  have h2 := lt_pow_len b
  refine dg_len ?_
  have e1 : 65536 ^ (dg a).length ≤ 65536 ^ max (dg a).length (dg b).length := Nat.pow_le_pow_right (by decide) (by omega)
  have e2 : 65536 ^ (dg b).length ≤ 65536 ^ max (dg a).length (dg b).length := Nat.pow_le_pow_right (by decide) (by omega)
  rw [Nat.pow_succ]
  generalize 65536 ^ max (dg a).length (dg b).length = P at *
  omega
theorem len_mul (a b : Nat) : (dg (a * b)).length ≤ (dg a).length + (dg b).length := by
  refine dg_len ?_
  rw [Nat.pow_add]
  exact Nat.mul_lt_mul'' (lt_pow_len a) (lt_pow_len b)
end Go.Proofs.YtfoljmpphbhobaaDoor
