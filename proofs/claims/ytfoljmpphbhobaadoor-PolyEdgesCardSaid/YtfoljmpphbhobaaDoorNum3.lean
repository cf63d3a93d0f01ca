/- The walks of the reference's numbers: Cmp. -/
import Derived.Test.YtfoljmpphbhobaaDoorNum2
namespace Go.Proofs.YtfoljmpphbhobaaDoor
open Go.RowKit Go.Spk
set_option linter.unusedVariables false
theorem lt_pow_len (n : Nat) : n < 65536 ^ (dg n).length := by
  have h := (pv_bd (dg_digs n) (dg n).length).2
  have e : pv (ix (dg n)) (dg n).length = (n : Int) := nv_dg n
  rw [e] at h
  have : ((65536 ^ (dg n).length : Nat) : Int) = (65536 : Int) ^ (dg n).length := by simp
  omega
theorem lt_of_len {a b : Nat} (h : (dg a).length < (dg b).length) : a < b := by
  refine Nat.lt_of_not_le fun hle => ?_
  have := dg_len (Nat.lt_of_le_of_lt hle (lt_pow_len a))
  omega
theorem div_step (a k : Nat) : a / 65536 ^ k = 65536 * (a / 65536 ^ (k + 1)) + a / 65536 ^ k % 65536 := by
  rw [Nat.pow_succ, ← Nat.div_div_eq_div_mul]; omega
theorem lt_of_div {a b : Nat} (x : Nat) (h : a / x < b / x) : a < b := by
  refine Nat.lt_of_not_le fun hle => ?_
  have := Nat.div_le_div_right (c := x) hle
  omega
theorem lt_of_digit {a b k : Nat} (h : a / 65536 ^ (k + 1) = b / 65536 ^ (k + 1)) (hd : ix (dg a) k < ix (dg b) k) : a < b := by
  rw [ix_dg, ix_dg] at hd
  refine lt_of_div (65536 ^ k) ?_
  rw [div_step a k, div_step b k, h]
  omega
theorem eq_of_digit {a b k : Nat} (h : a / 65536 ^ (k + 1) = b / 65536 ^ (k + 1)) (hd : ix (dg a) k = ix (dg b) k) : a / 65536 ^ k = b / 65536 ^ k := by
  rw [ix_dg, ix_dg] at hd
  rw [div_step a k, div_step b k, h]
  omega
theorem nv_dg_toNat (n : Nat) : (nv (dg n)).toNat = n := by rw [nv_dg]; omega
def cmpN (a b : Nat) : Int := if a < b then -1 else if b < a then 1 else 0
set_option maxRecDepth 100000 in
set_option maxHeartbeats 1000000 in
theorem cmp_calls (a b ga ca gb cb : Nat) (w : World) (hA : Dr w ga ca (dg a)) (hB : Dr w gb cb (dg b)) :
    Calls Tryd.prog 51 #[.slice (some ⟨ga, 0, none⟩) (dg a).length ca, .slice (some ⟨gb, 0, none⟩) (dg b).length cb] w
      fun e w' => e = .returned (.int .i64 (cmpN a b)) ∧ ∃ m, w' = w.drewN m := by
  have hra := hA.room
  have hma := hA.max
  have hrb := hB.room
  have hmb := hB.max
  unfold maxLen at hma hmb
  have hda := dg_digs a
  have hdb := dg_digs b
  generalize hla : (dg a).length = la
  generalize hlb : (dg b).length = lb
  rw [hla] at hra
  rw [hlb] at hrb
  have HLA := Lib.hid hla; have HLB := Lib.hid hlb
  clear hla hlb
  by_cases h1 : la < lb
  · have hne : ((la : Int) != (lb : Int)) = true := by simp; omega
    have i1 : (la : Int) < lb := by omega
    have hlt := lt_of_len (a := a) (b := b) (by rw [HLA.out, HLB.out]; exact h1)
    have hv : cmpN a b = -1 := by simp [cmpN, hlt]
    have HV := Lib.hid hv
    clear hlt hv
    go_enter Tryd.func51, Tryd.ntmps51
    go_wp2_with fail
    refine (HLA.out ▸ trim_calls ga ca (dg a) w hA hda).mono ?_
    rintro e w' ⟨rfl, rfl, hA2⟩
    rw [nv_dg_toNat, HLA.out]
    clear hA2
    go_wp2_with fail
    refine (HLB.out ▸ trim_calls gb cb (dg b) w hB hdb).mono ?_
    rintro e w' ⟨rfl, rfl, hB2⟩
    rw [nv_dg_toNat, HLB.out]
    clear hB2
    go_wp2_with fail
    go_ret
    exact ⟨by rw [HV.out]; rfl, 0, rfl⟩
  by_cases h2 : lb < la
  · have hne : ((la : Int) != (lb : Int)) = true := by simp; omega
    have i1 : ¬ (la : Int) < lb := by omega
    have hlt := lt_of_len (a := b) (b := a) (by rw [HLA.out, HLB.out]; exact h2)
    have hv : cmpN a b = 1 := by simp [cmpN, hlt, Nat.not_lt_of_lt hlt]
    have HV := Lib.hid hv
    clear hlt hv
    go_enter Tryd.func51, Tryd.ntmps51
    go_wp2_with fail
    refine (HLA.out ▸ trim_calls ga ca (dg a) w hA hda).mono ?_
    rintro e w' ⟨rfl, rfl, hA2⟩
    rw [nv_dg_toNat, HLA.out]
    clear hA2
    go_wp2_with fail
    refine (HLB.out ▸ trim_calls gb cb (dg b) w hB hdb).mono ?_
    rintro e w' ⟨rfl, rfl, hB2⟩
    rw [nv_dg_toNat, HLB.out]
    clear hB2
    go_wp2_with fail
    go_ret
    exact ⟨by rw [HV.out]; rfl, 0, rfl⟩
  · obtain rfl : la = lb := by omega
    clear h1 h2 hrb
    go_enter Tryd.func51, Tryd.ntmps51
    go_wp2_with fail
    refine (HLA.out ▸ trim_calls ga ca (dg a) w hA hda).mono ?_
    rintro e w' ⟨rfl, rfl, hA2⟩
    rw [nv_dg_toNat, HLA.out]
    clear hA2
    go_wp2_with fail
    refine (HLB.out ▸ trim_calls gb cb (dg b) w hB hdb).mono ?_
    rintro e w' ⟨rfl, rfl, hB2⟩
    rw [nv_dg_toNat, HLB.out]
    clear hB2
    go_wp2_with fail
    go_loopw [5] (fun i wr => ∃ k m : Nat, k ≤ la ∧ i = .int .i64 ((k : Int) - 1) ∧ a / 65536 ^ k = b / 65536 ^ k ∧ wr = w.drewN m) (fun i _ => (intOf i + 1).toNat)
    case atStart => exact ⟨la, 0, Nat.le_refl _, rfl, by rw [Nat.div_eq_of_lt (by have := lt_pow_len a; rwa [HLA.out] at this), Nat.div_eq_of_lt (by have := lt_pow_len b; rwa [HLB.out] at this)], rfl⟩
    case round =>
      obtain ⟨k, m, hk, rfl, hq, rfl⟩ := hrel
      have HQ := Lib.hid hq
      clear hq
      by_cases h0 : k = 0
      · subst h0
        have hv : cmpN a b = 0 := by
          have := HQ.out
          simp at this
          subst this
          simp [cmpN]
        have HV := Lib.hid hv
        clear hv
        rw [show ((0 : Nat) : Int) - 1 = -1 from rfl]
        go_wp2_with fail
        go_ret
        exact ⟨by rw [HV.out]; rfl, m, rfl⟩
      · obtain ⟨q, rfl⟩ : ∃ q, k = q + 1 := ⟨k - 1, by omega⟩
        have e1 : ((q + 1 : Nat) : Int) - 1 = q := by omega
        rw [e1]
        clear e1
        have i0 : (q : Int) < la := by omega
        have ca0 := hA.cell q (by rw [HLA.out]; omega)
        have cb0 := hB.cell q (by rw [HLB.out]; omega)
        have hd1 := hda q
        have hd2 := hdb q
        generalize hx : ix (dg a) q = x at ca0 hd1
        generalize hy : ix (dg b) q = y at cb0 hd2
        have HX := Lib.hid hx; have HY := Lib.hid hy
        clear hx hy
        go_wp2_with fail
        by_cases hxy : x < y
        · have hv : cmpN a b = -1 := by
            have := lt_of_digit HQ.out (by rw [HX.out, HY.out]; exact hxy)
            simp [cmpN, this]
          have HV := Lib.hid hv
          clear hv
          go_quiet (fail)
          go_wp2_with fail
          go_ret
          exact ⟨by rw [HV.out]; rfl, _, World.drewN_drewN _ _ _⟩
        · go_quiet (fail)
          go_wp2_with fail
          by_cases hyx : y < x
          · have hv : cmpN a b = 1 := by
              have := lt_of_digit HQ.out.symm (by rw [HX.out, HY.out]; exact hyx)
              simp [cmpN, this, Nat.not_lt_of_lt this]
            have HV := Lib.hid hv
            clear hv
            go_quiet (fail)
            go_wp2_with fail
            go_ret
            exact ⟨by rw [HV.out]; rfl, _, World.drewN_drewN _ _ _⟩
          · go_quiet (fail)
            go_wp2_with fail
            go_roundw
            case rel => exact ⟨q, _, by omega, by go_num, eq_of_digit HQ.out (by rw [HX.out, HY.out]; omega), rfl⟩
            case measure => simp [intOf]
end Go.Proofs.YtfoljmpphbhobaaDoor
