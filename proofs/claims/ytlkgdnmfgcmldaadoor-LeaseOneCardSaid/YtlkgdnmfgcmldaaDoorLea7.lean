/- What a name may be: store.Valid and the reference's. -/
import Derived.Test.YtlkgdnmfgcmldaaDoorLea6
import Derived.Test.YtlkgdnmfgcmldaaDoorLea5
import Derived.LoopTactic
import Derived.Handy
import Derived.Outline
import Derived.Lib.Strings
namespace Go.Proofs.YtlkgdnmfgcmldaaDoor
open Go.RowKit Go.Spk
set_option linter.unusedVariables false
theorem okB_at {s : ByteArray} {k : Nat} (hk : k < s.size) {x : Int} (hx : (s[k].toNat : Int) = x) : okB (bI s) s.size k = (ltrB x || (decide (x = 45) && (decide (0 < k) && decide (k + 1 < s.size)))) := by
  unfold okB
  rw [ix_bI s k hk, hx]
theorem valid_no {s : ByteArray} {k : Nat} (hk : k < s.size) (h : okB (bI s) s.size k = false) : validB s = false := by
  unfold validB
  rw [Bool.and_eq_false_iff]
  refine .inr ?_
  rw [List.all_eq_false]
  exact ⟨k, by simpa using hk, by simp [h]⟩
theorem valid_yes {s : ByteArray} (h1 : 1 ≤ s.size) (h2 : s.size ≤ 63) (h : ∀ j, j < s.size → okB (bI s) s.size j = true) : validB s = true := by
  unfold validB
  rw [Bool.and_eq_true, Bool.and_eq_true]
  refine ⟨⟨by simpa using h1, by simpa using h2⟩, ?_⟩
  rw [List.all_eq_true]
  intro j hj
  exact h j (by simpa using hj)
theorem valid_calls (s : ByteArray) (hs : s.size ≤ maxLen) (w : World) : Calls Tryd.prog 23 #[.string s] w fun e w' => e = .returned (.bool (validB s)) ∧ w' = w := by
  unfold maxLen at hs
  by_cases h0 : s.size = 0
  · have hv : validB s = false := by unfold validB; simp [h0]
    obtain rfl : s = ⟨#[]⟩ := by
      cases s with
      | mk d => congr 1; exact Array.eq_empty_of_size_eq_zero h0
    rw [hv]
    clear hv h0 hs
    go_enter Tryd.func23, Tryd.ntmps23
    go_wp2_with fail
    go_ret
    exact ⟨rfl, rfl⟩
  have hne : s.toList.isEmpty = false := by
    rw [Lib.toList_data, List.isEmpty_eq_false_iff]
    intro e
    exact h0 (by show s.data.size = 0; rw [← Array.length_toList, e]; rfl)
  by_cases h63 : 63 < s.size
  · have hv : validB s = false := by
      unfold validB
      rw [Bool.and_eq_false_iff, Bool.and_eq_false_iff]
      exact .inl (.inr (by simp; omega))
    have h63' : (63 : Int) < s.size := by omega
    have H0 := Lib.hid h0
    rw [hv]
    clear hv h0 h63
    go_enter Tryd.func23, Tryd.ntmps23
    go_wp2_with fail
    all_goals go_ret
    all_goals exact ⟨rfl, rfl⟩
  have h63' : ¬ (63 : Int) < s.size := by omega
  have HH := Lib.hid (And.intro h0 h63)
  obtain ⟨r, hr⟩ : ∃ r, r = validB s := ⟨_, rfl⟩
  have HR := Lib.hid hr
  rw [← hr]
  clear hr h0 h63
  go_enter Tryd.func23, Tryd.ntmps23
  go_wp2_with fail
  go_loop [14] (fun i => ∃ k : Nat, k ≤ s.size ∧ i = .int .i64 k ∧ (∀ j, j < k → okB (bI s) s.size j = true)) (fun i => s.size - (intOf i).toNat)
  case atStart => exact ⟨0, by omega, rfl, fun j hj => by omega⟩
  case round =>
    obtain ⟨k, hk, rfl, hall⟩ := hrel
    have HA := Lib.hid hall
    clear hall
    by_cases hlt : k < s.size
    · have hi : (k : Int) < s.size := by omega
      have H2 := Lib.hid (okB_at hlt rfl)
      have hn : IntKind.i64.wrap ((s.size : Int) - 1) = (s.size : Int) - 1 := by simp [IntKind.wrap_i64]; omega
      have h1e : decide (0 < k) = decide ((0 : Int) < (k : Int)) := by simp
      have h2e : decide (k + 1 < s.size) = decide ((k : Int) < (s.size : Int) - 1) := by simp; omega
      have H2 := Lib.hid (H2.out.trans (by rw [h1e, h2e]))
      clear h1e h2e
      cases hl : ltrB ((s[k].toNat : Nat) : Int) <;> by_cases hd : (s[k].toNat : Int) = 45 <;> by_cases h1 : (0 : Int) < (k : Int) <;> by_cases h2 : (k : Int) < (s.size : Int) - 1
      all_goals
        try (exfalso; rw [hd] at hl; exact absurd hl (by decide))
      all_goals
        have hok := H2.out
        rw [hl] at hok
        first | rw [decide_eq_true hd] at hok | rw [decide_eq_false hd] at hok
        first | rw [decide_eq_true h1] at hok | rw [decide_eq_false h1] at hok
        first | rw [decide_eq_true h2] at hok | rw [decide_eq_false h2] at hok
        first
        | (have hok : okB (bI s) s.size k = true := hok
           have HK := Lib.hid hok
           clear hok
           go_wp2_with (go_at_call 37; refine (letter_calls _ _).mono ?_; rintro e w' ⟨rfl, rfl⟩)
           go_round
           case rel => exact ⟨k + 1, by omega, by go_num, fun j hj => by rcases Nat.lt_succ_iff_lt_or_eq.1 hj with h | rfl; exact HA.out j h; exact HK.out⟩
           case measure => simp [intOf]; omega)
        | (have hok : okB (bI s) s.size k = false := hok
           have hv := valid_no hlt hok
           obtain rfl : r = false := HR.out.trans hv
           clear hok hv
           go_wp2_with (go_at_call 37; refine (letter_calls _ _).mono ?_; rintro e w' ⟨rfl, rfl⟩)
           all_goals go_ret
           all_goals exact ⟨rfl, rfl⟩)
    · have hi : ¬ (k : Int) < s.size := by omega
      have hv : r = true := HR.out.trans (valid_yes (by have := HH.out.1; omega) (by have := HH.out.2; omega) fun j hj => HA.out j (by omega))
      subst hv
      go_wp2_with fail
      go_ret
      exact ⟨rfl, rfl⟩
set_option maxHeartbeats 4000000 in
theorem rvalid_calls (s : ByteArray) (hs : s.size ≤ maxLen) (w : World) : Calls Tryd.prog 41 #[.string s] w fun e w' => e = .returned (.bool (validB s)) ∧ w' = w := by
  unfold maxLen at hs
  obtain ⟨r, hr⟩ : ∃ r, r = validB s := ⟨_, rfl⟩
  have HR := Lib.hid hr
  rw [← hr]
  clear hr
  go_enter Tryd.func41, Tryd.ntmps41
  go_wp2_with fail
  go_loop [3] (fun i => ∃ k : Nat, k ≤ s.size ∧ i = .int .i64 k ∧ (∀ j, j < k → okB (bI s) s.size j = true)) (fun i => s.size - (intOf i).toNat)
  case atStart => exact ⟨0, by omega, rfl, fun j hj => by omega⟩
  case round =>
    obtain ⟨k, hk, rfl, hall⟩ := hrel
    have HA := Lib.hid hall
    clear hall
    by_cases hlt : k < s.size
    · have hi : (k : Int) < s.size := by omega
      have H2 := Lib.hid (okB_at hlt rfl)
      have h1e : decide (0 < k) = decide ((0 : Int) < (k : Int)) := by simp
      have h2e : decide (k + 1 < s.size) = decide ((k : Int) + 1 < (s.size : Int)) := by rw [Bool.eq_iff_iff, decide_eq_true_eq, decide_eq_true_eq]; omega
      have H3 : okB (bI s) s.size k = (((decide ((97 : Int) ≤ (s[k].toNat : Int)) && decide ((s[k].toNat : Int) ≤ 122)) || (decide ((48 : Int) ≤ (s[k].toNat : Int)) && decide ((s[k].toNat : Int) ≤ 57))) || (decide ((s[k].toNat : Int) = 45) && (decide ((0 : Int) < (k : Int)) && decide ((k : Int) + 1 < (s.size : Int))))) := by
        rw [← h1e, ← h2e]; exact H2.out
      have H2 := Lib.hid H3
      clear H3
      clear h1e h2e
      by_cases l1 : (97 : Int) ≤ (s[k].toNat : Int) <;> by_cases l2 : (s[k].toNat : Int) ≤ 122 <;> by_cases l3 : (48 : Int) ≤ (s[k].toNat : Int) <;> by_cases l4 : (s[k].toNat : Int) ≤ 57 <;> by_cases hd : (s[k].toNat : Int) = 45
      all_goals try (exfalso; omega)
      all_goals by_cases h1 : (0 : Int) < (k : Int) <;> by_cases h2 : (k : Int) + 1 < (s.size : Int)
      all_goals
        have hok := H2.out
        first | rw [decide_eq_true l1] at hok | rw [decide_eq_false l1] at hok
        first | rw [decide_eq_true l2] at hok | rw [decide_eq_false l2] at hok
        first | rw [decide_eq_true l3] at hok | rw [decide_eq_false l3] at hok
        first | rw [decide_eq_true l4] at hok | rw [decide_eq_false l4] at hok
        first | rw [decide_eq_true hd] at hok | rw [decide_eq_false hd] at hok
        first | rw [decide_eq_true h1] at hok | rw [decide_eq_false h1] at hok
        first | rw [decide_eq_true h2] at hok | rw [decide_eq_false h2] at hok
        first
        | (have hok : okB (bI s) s.size k = true := hok
           have HK := Lib.hid hok
           clear hok
           go_wp2_with fail
           go_round
           case rel => exact ⟨k + 1, by omega, by go_num, fun j hj => by rcases Nat.lt_succ_iff_lt_or_eq.1 hj with h | rfl; exact HA.out j h; exact HK.out⟩
           case measure => simp [intOf]; omega)
        | (have hok : okB (bI s) s.size k = false := hok
           have hv := valid_no hlt hok
           obtain rfl : r = false := HR.out.trans hv
           clear hok hv
           go_wp2_with fail
           all_goals go_ret
           all_goals exact ⟨rfl, rfl⟩)
    · have hi : ¬ (k : Int) < s.size := by omega
      have hks : k = s.size := by omega
      by_cases g1 : (1 : Int) ≤ (s.size : Int) <;> by_cases g2 : (s.size : Int) ≤ 63
      · have hv : r = true := HR.out.trans (valid_yes (by omega) (by omega) fun j hj => HA.out j (by omega))
        subst hv
        clear hks
        go_wp2_with fail
        go_ret
        exact ⟨rfl, rfl⟩
      all_goals
        have hv : validB s = false := by
          unfold validB
          rw [Bool.and_eq_false_iff, Bool.and_eq_false_iff, decide_eq_false_iff_not, decide_eq_false_iff_not]
          exact .inl (by omega)
        obtain rfl : r = false := HR.out.trans hv
        clear hks hv
        go_wp2_with fail
        go_ret
        exact ⟨rfl, rfl⟩
end Go.Proofs.YtlkgdnmfgcmldaaDoor
