/- The walks of the reference's Seal and Open. -/
import Derived.Test.YtfoljmpphbhobaaDoorNum12
import Derived.Test.YtfoljmpphbhobaaDoorLaw3b
namespace Go.Proofs.YtfoljmpphbhobaaDoor
open Go.RowKit Go.Spk
set_option linter.unusedVariables false
set_option maxRecDepth 100000 in
set_option maxHeartbeats 1000000 in
theorem rseal_calls (key nonce text extra : ByteArray) (hk : key.size = 32) (hn : nonce.size = 12) (hs : text.size ≤ 1000000) (he : extra.size ≤ 1000000) (w : World) :
    Calls Tryd.prog 24 #[.string key, .string nonce, .string text, .string extra] w
      fun e w' => e = .returned (.string (strOfNums (sealI (bI key) (bI nonce) (bI text) (bI extra)))) ∧ Below w.heap.size w w' := by
  have HK := Lib.hid hk; have HN := Lib.hid hn; clear hk hn
  go_enter Tryd.func24, Tryd.ntmps24
  go_wp2_with fail
  refine (rxor_calls key nonce text 1 HK.out HN.out (by decide) (by decide) (by omega) w).mono ?_
  rintro e w1 ⟨rfl, hB1⟩
  obtain ⟨X, hX⟩ : ∃ X, X = strOfNums (xorI (bI key) 1 (bI nonce) (bI text)) := ⟨_, rfl⟩
  have hXb : bI X = xorI (bI key) 1 (bI nonce) (bI text) := by rw [hX, bI_str (xorI_mem _ _ _ _)]
  have hXs : X.size = text.size := by rw [← bI_length, hXb, xorI_length, bI_length]
  rw [← hX]
  have HX := Lib.hid hX; have HXB := Lib.hid hXb; have HXS := Lib.hid hXs; have HB1 := Lib.hid hB1
  clear hX hXb hXs hB1
  go_wp2_with fail
  refine (rmark_calls key nonce X extra HK.out HN.out (by rw [HXS.out]; exact hs) he w1).mono ?_
  rintro e w2 ⟨rfl, hb2⟩
  obtain ⟨M, hM⟩ : ∃ M, M = strOfNums (markI (bI key) (bI nonce) (bI X) (bI extra)) := ⟨_, rfl⟩
  have hMs : M.size = 16 := by rw [hM, str_size, markI_length]
  rw [← hM]
  have hall : X ++ M = strOfNums (sealI (bI key) (bI nonce) (bI text) (bI extra)) := by
    unfold sealI
    rw [str_cat, ← HX.out, ← HXB.out, ← hM]
  have hc : X.size + M.size ≤ 1000016 := by rw [hMs, HXS.out]; omega
  have HB2 := Lib.hid (HB1.out.trans (hb2.mono HB1.out.size)); have HALL := Lib.hid hall
  clear hM hMs hb2 hall
  go_wp2_with fail
  go_ret
  exact ⟨by rw [← HALL.out]; rfl, HB2.out⟩
/-- Is it the text's sum that stands at the end? -/
def fitsI (ks ns ws es : List Int) : Bool := markI ks ns (ws.take (ws.length - 16)) es == ws.drop (ws.length - 16)
/-- What Open answers: the text, the error's number. -/
def openS (ks ns ws es : List Int) : List Int := if ws.length < 16 then [] else if fitsI ks ns ws es then xorI ks 1 ns (ws.take (ws.length - 16)) else []
def openC (ks ns ws es : List Int) : Int := if ws.length < 16 then 2 else if fitsI ks ns ws es then 0 else 5
theorem bI_inj' {a b : ByteArray} (h : bI a = bI b) : a = b := by rw [← str_bI a, h, str_bI]
theorem toList_ne {a b : ByteArray} (h : ¬ a = b) : ¬ a.toList = b.toList := fun e => h (by
  rw [ByteArray.toList_eq, ByteArray.toList_eq] at e
  cases a; cases b
  simp at e
  rw [e])
theorem nil_str : strOfNums [] = { data := #[] } := rfl
set_option maxRecDepth 100000 in
set_option maxHeartbeats 1000000 in
theorem ropen_calls (key nonce s extra : ByteArray) (hk : key.size = 32) (hn : nonce.size = 12) (hs : s.size ≤ 1000000) (he : extra.size ≤ 1000000) (w : World) :
    Calls Tryd.prog 25 #[.string key, .string nonce, .string s, .string extra] w
      fun e w' => e = .returned (.tuple #[.string (strOfNums (openS (bI key) (bI nonce) (bI s) (bI extra))), .int .i64 (openC (bI key) (bI nonce) (bI s) (bI extra))]) ∧ Below w.heap.size w w' := by
  have HK := Lib.hid hk; have HN := Lib.hid hn; clear hk hn
  by_cases hl : s.size < 16
  · have i1 : (s.size : Int) < 16 := by omega
    have e1 : openS (bI key) (bI nonce) (bI s) (bI extra) = [] := by unfold openS; rw [bI_length, if_pos hl]
    have e2 : openC (bI key) (bI nonce) (bI s) (bI extra) = 2 := by unfold openC; rw [bI_length, if_pos hl]
    rw [e1, e2, nil_str]
    clear e1 e2
    go_enter Tryd.func25, Tryd.ntmps25
    go_wp2_with fail
    go_ret2
    exact ⟨rfl, Below.refl _ w⟩
  · have i1 : ¬ (s.size : Int) < 16 := by omega
    obtain ⟨n, hnn⟩ : ∃ n, s.size = n + 16 := ⟨s.size - 16, by omega⟩
    have i2 : (s.size : Int) - 16 = n := by omega
    have i3 : (n : Int) ≤ s.size := by omega
    obtain ⟨A, hA⟩ : ∃ A, A = s.extract 0 n := ⟨_, rfl⟩
    obtain ⟨T, hT⟩ : ∃ T, T = s.extract n s.size := ⟨_, rfl⟩
    have bA : bI A = (bI s).take n := by rw [hA]; simp [bI]
    have bT : bI T = (bI s).drop n := by
      rw [hT]; simp [bI]
      rw [List.take_of_length_le (by simp)]
    have sA : A.size ≤ 1000000 := by rw [← bI_length, bA, List.length_take, bI_length]; omega
    obtain ⟨M, hM⟩ : ∃ M, M = strOfNums (markI (bI key) (bI nonce) (bI A) (bI extra)) := ⟨_, rfl⟩
    obtain ⟨X, hX⟩ : ∃ X, X = strOfNums (xorI (bI key) 1 (bI nonce) (bI A)) := ⟨_, rfl⟩
    have hfit : fitsI (bI key) (bI nonce) (bI s) (bI extra) = decide (M = T) := by
      unfold fitsI
      rw [bI_length, show s.size - 16 = n by omega, ← bA, ← bT, hM]
      rw [Bool.eq_iff_iff]
      simp only [beq_iff_eq, decide_eq_true_eq]
      constructor
      · intro h; rw [h, str_bI]
      · intro h; rw [← h, bI_str (markI_mem _ _ _ _)]
    have e1 : openS (bI key) (bI nonce) (bI s) (bI extra) = if M = T then xorI (bI key) 1 (bI nonce) (bI A) else [] := by
      unfold openS; rw [bI_length, if_neg hl, hfit, show s.size - 16 = n by omega, ← bA]; simp only [decide_eq_true_eq]
    have e2 : openC (bI key) (bI nonce) (bI s) (bI extra) = if M = T then 0 else 5 := by
      unfold openC; rw [bI_length, if_neg hl, hfit]; simp only [decide_eq_true_eq]
    rw [e1, e2]
    have HA := Lib.hid hA.symm; have HT := Lib.hid hT.symm; have HM := Lib.hid hM; have HX := Lib.hid hX; have SA := Lib.hid sA
    clear hA hT bA bT sA hM hX hfit e1 e2
    clear hnn hl
    have ha := HA.out; have ht := HT.out
    by_cases hq : M = T
    · subst hq
      rw [if_pos rfl, if_pos rfl, ← HX.out]
      go_enter Tryd.func25, Tryd.ntmps25
      go_wp2_with fail
      refine wp_region_class (fun W => Below w.heap.size w W) (by kernel_rfl) (by kernel_rfl) (below_drawnN (Below.refl _ w) 1) ?_
      refine wpQuiet_step (fun K hK => ?_)
      refine quiet_want (by kernel_rfl) ⟨(.string key), fun W hW => ?_, ?_⟩
      · refine quietAt_val ?_
        go_simp
      go_simp
      refine hK _ ?_
      clear hK K
      refine wpQuiet_step (fun K hK => ?_)
      refine quiet_want (by kernel_rfl) ⟨(.string nonce), fun W hW => ?_, ?_⟩
      · refine quietAt_val ?_
        go_simp
      go_simp
      refine hK _ ?_
      clear hK K
      refine wpQuiet_step (fun K hK => ?_)
      refine quiet_want (by kernel_rfl) ⟨(.string s), fun W hW => ?_, ?_⟩
      · refine quietAt_val ?_
        go_simp
      go_simp
      refine hK _ ?_
      clear hK K
      refine wpQuiet_step (fun K hK => ?_)
      refine quiet_want (by kernel_rfl) ⟨(.int .i64 (n : Int)), fun W hW => ?_, ?_⟩
      · refine quietAt_val ?_
        go_simp
      go_simp
      refine hK _ ?_
      clear hK K
      refine wpQuiet_step (fun K hK => ?_)
      refine quiet_want (by kernel_rfl) ⟨(.string A), fun W hW => ?_, ?_⟩
      · refine quietAt_val ?_
        go_simp
      go_simp
      refine hK _ ?_
      clear hK K
      refine wpQuiet_step (fun K hK => ?_)
      refine quiet_want (by kernel_rfl) ⟨(.string extra), fun W hW => ?_, ?_⟩
      · refine quietAt_val ?_
        go_simp
      go_simp
      refine hK _ ?_
      clear hK K
      refine wpQuiet_step (fun K hK => ?_)
      refine quiet_want (by kernel_rfl) ⟨(.string M), fun W hW => ?_, ?_⟩
      · refine quietAt_call (f := 57) (args := (#[.string key, .string nonce, .string A, .string extra])) (by go_simp) ?_
        refine (rmark_calls key nonce A extra HK.out HN.out SA.out he W).mono ?_
        rw [← HM.out]
        rintro e W' ⟨rfl, hb⟩
        exact ⟨rfl, hW.trans (hb.mono hW.size)⟩
      go_simp
      refine hK _ ?_
      clear hK K
      refine wpQuiet_step (fun K hK => ?_)
      refine quiet_want (by kernel_rfl) ⟨(.string s), fun W hW => ?_, ?_⟩
      · refine quietAt_val ?_
        go_simp
      go_simp
      refine hK _ ?_
      clear hK K
      refine wpQuiet_step (fun K hK => ?_)
      refine quiet_want (by kernel_rfl) ⟨(.int .i64 (n : Int)), fun W hW => ?_, ?_⟩
      · refine quietAt_val ?_
        go_simp
      go_simp
      refine hK _ ?_
      clear hK K
      refine wpQuiet_step (fun K hK => ?_)
      refine quiet_want (by kernel_rfl) ⟨(.string M), fun W hW => ?_, ?_⟩
      · refine quietAt_val ?_
        go_simp
      go_simp
      refine hK _ ?_
      clear hK K
      refine wpQuiet_step (fun K hK => ?_)
      refine quiet_want (by kernel_rfl) ⟨(.bool false), fun W hW => ?_, ?_⟩
      · refine quietAt_val ?_
        go_simp
      go_simp
      refine hK _ ?_
      clear hK K
      refine wpQuiet_nil ?_
      intro W1 hB1
      have HB1 := Lib.hid hB1
      clear hB1
      go_wp2_with fail
      refine (rxor_calls key nonce A 1 HK.out HN.out (by decide) (by decide) (by have := SA.out; omega) W1).mono ?_
      rw [← HX.out]
      rintro e w2 ⟨rfl, hb2⟩
      have HB2 := Lib.hid (HB1.out.trans (hb2.mono HB1.out.size))
      clear hb2
      go_wp2_with fail
      go_ret2
      exact ⟨rfl, HB2.out⟩
    · rw [if_neg hq, if_neg hq, nil_str]
      go_enter Tryd.func25, Tryd.ntmps25
      go_wp2_with fail
      refine wp_region_class (fun W => Below w.heap.size w W) (by kernel_rfl) (by kernel_rfl) (below_drawnN (Below.refl _ w) 1) ?_
      refine wpQuiet_step (fun K hK => ?_)
      refine quiet_want (by kernel_rfl) ⟨(.string key), fun W hW => ?_, ?_⟩
      · refine quietAt_val ?_
        go_simp
      go_simp
      refine hK _ ?_
      clear hK K
      refine wpQuiet_step (fun K hK => ?_)
      refine quiet_want (by kernel_rfl) ⟨(.string nonce), fun W hW => ?_, ?_⟩
      · refine quietAt_val ?_
        go_simp
      go_simp
      refine hK _ ?_
      clear hK K
      refine wpQuiet_step (fun K hK => ?_)
      refine quiet_want (by kernel_rfl) ⟨(.string s), fun W hW => ?_, ?_⟩
      · refine quietAt_val ?_
        go_simp
      go_simp
      refine hK _ ?_
      clear hK K
      refine wpQuiet_step (fun K hK => ?_)
      refine quiet_want (by kernel_rfl) ⟨(.int .i64 (n : Int)), fun W hW => ?_, ?_⟩
      · refine quietAt_val ?_
        go_simp
      go_simp
      refine hK _ ?_
      clear hK K
      refine wpQuiet_step (fun K hK => ?_)
      refine quiet_want (by kernel_rfl) ⟨(.string A), fun W hW => ?_, ?_⟩
      · refine quietAt_val ?_
        go_simp
      go_simp
      refine hK _ ?_
      clear hK K
      refine wpQuiet_step (fun K hK => ?_)
      refine quiet_want (by kernel_rfl) ⟨(.string extra), fun W hW => ?_, ?_⟩
      · refine quietAt_val ?_
        go_simp
      go_simp
      refine hK _ ?_
      clear hK K
      refine wpQuiet_step (fun K hK => ?_)
      refine quiet_want (by kernel_rfl) ⟨(.string M), fun W hW => ?_, ?_⟩
      · refine quietAt_call (f := 57) (args := (#[.string key, .string nonce, .string A, .string extra])) (by go_simp) ?_
        refine (rmark_calls key nonce A extra HK.out HN.out SA.out he W).mono ?_
        rw [← HM.out]
        rintro e W' ⟨rfl, hb⟩
        exact ⟨rfl, hW.trans (hb.mono hW.size)⟩
      go_simp
      refine hK _ ?_
      clear hK K
      refine wpQuiet_step (fun K hK => ?_)
      refine quiet_want (by kernel_rfl) ⟨(.string s), fun W hW => ?_, ?_⟩
      · refine quietAt_val ?_
        go_simp
      go_simp
      refine hK _ ?_
      clear hK K
      refine wpQuiet_step (fun K hK => ?_)
      refine quiet_want (by kernel_rfl) ⟨(.int .i64 (n : Int)), fun W hW => ?_, ?_⟩
      · refine quietAt_val ?_
        go_simp
      go_simp
      refine hK _ ?_
      clear hK K
      refine wpQuiet_step (fun K hK => ?_)
      refine quiet_want (by kernel_rfl) ⟨(.string T), fun W hW => ?_, ?_⟩
      · refine quietAt_val ?_
        go_simp
      go_simp
      refine hK _ ?_
      clear hK K
      refine wpQuiet_step (fun K hK => ?_)
      refine quiet_want (by kernel_rfl) ⟨(.bool true), fun W hW => ?_, ?_⟩
      · refine quietAt_val ?_
        have h1 := toList_ne hq
        go_simp
      go_simp
      refine hK _ ?_
      clear hK K
      refine wpQuiet_nil ?_
      intro W1 hB1
      have HB1 := Lib.hid hB1
      clear hB1
      go_wp2_with fail
      go_ret2
      exact ⟨rfl, HB1.out⟩
end Go.Proofs.YtfoljmpphbhobaaDoor
