/- The walk of the reference's Low, at 130. -/
import Derived.Test.YtfoljmpphbhobaaDoorNum8
namespace Go.Proofs.YtfoljmpphbhobaaDoor
open Go.RowKit Go.Spk
set_option linter.unusedVariables false
theorem len_mono {m n : Nat} (h : m ≤ n) : (dg m).length ≤ (dg n).length := dg_len (Nat.lt_of_le_of_lt h (lt_pow_len n))
set_option maxRecDepth 100000 in
set_option maxHeartbeats 2000000 in
theorem low_calls (a ga ca : Nat) (w : World) (hA : Dr w ga ca (dg a)) (sa : (dg a).length ≤ 900) :
    Calls Tryd.prog 52 #[.slice (some ⟨ga, 0, none⟩) (dg a).length ca, .int .i64 130] w (Gives w (a % P130)) := by
  have SA := Lib.hid sa
  clear sa
  go_enter Tryd.func52, Tryd.ntmps52
  go_wp2_with fail
  refine (half_calls a ga ca w hA (by have := SA.out; omega)).mono ?_
  rintro e w1 ⟨g1, c1, rfl, hD1, hB1⟩
  have HD1 := Lib.hid hD1; have HB1 := Lib.hid hB1
  clear hD1 hB1
  go_wp2_with fail
  refine (power_calls w1).mono ?_
  rintro e w2 ⟨g2, c2, rfl, hD2, hB2⟩
  have HD2 := Lib.hid hD2; have HB2 := Lib.hid hB2
  clear hD2 hB2
  have s1 : (dg (a / P130)).length ≤ 1000 := by have := len_mono (Nat.div_le_self a P130); have := SA.out; omega
  have s2 : (dg P130).length ≤ 1000 := by rw [dg_p130]; decide
  have S1 := Lib.hid s1; have S2 := Lib.hid s2
  clear s1 s2
  go_wp2_with fail
  refine (mul_calls (a / P130) P130 g1 c1 g2 c2 w2 (HD1.out.on HB2.out) HD2.out S1.out S2.out).mono ?_
  rintro e w3 ⟨g3, c3, rfl, hD3, hB3⟩
  have HD3 := Lib.hid hD3; have HB3 := Lib.hid hB3
  clear hD3 hB3
  have hle := Nat.div_mul_le_self a P130
  have hB13 : Below w.heap.size w w3 := HB1.out.trans ((HB2.out.mono HB1.out.size).trans (HB3.out.mono (Nat.le_trans HB1.out.size HB2.out.size)))
  have HLE := Lib.hid hle; have HB13 := Lib.hid hB13
  clear hle hB13
  go_wp2_with fail
  refine (sub_calls a (a / P130 * P130) ga ca g3 c3 HLE.out w3 (hA.on HB13.out) HD3.out (by have := SA.out; omega) (by have := len_mono HLE.out; have := SA.out; omega)).mono ?_
  rintro e w4 ⟨g4, c4, rfl, hD4, hB4⟩
  have hm : a - a / P130 * P130 = a % P130 := by
    have := Nat.div_add_mod a P130
    rw [Nat.mul_comm] at this
    omega
  rw [hm] at hD4 ⊢
  have HD4 := Lib.hid hD4; have HB4 := Lib.hid hB4
  clear hD4 hB4 hm
  go_wp2_with fail
  go_ret
  exact ⟨g4, c4, rfl, HD4.out, HB13.out.trans (HB4.out.mono HB13.out.size)⟩
end Go.Proofs.YtfoljmpphbhobaaDoor
