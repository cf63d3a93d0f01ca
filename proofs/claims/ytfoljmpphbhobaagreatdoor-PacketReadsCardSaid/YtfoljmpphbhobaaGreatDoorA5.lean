/- The walks of the reference's filled, mark, Seal and Open. · The walks of the reference's Seal and Open. -/
import Derived.Test.YtfoljmpphbhobaaGreatDoorA3
import Derived.Test.YtfoljmpphbhobaaGreatDoorA2
import Derived.Test.YtfoljmpphbhobaaGreatDoorA1
import Derived.Test.YtfoljmpphbhobaaGreatDoorA4
import Derived.Laws.Concat
namespace Go.Proofs.YtfoljmpphbhobaaGreatDoor
open Go.RowKit Go.Spk
set_option linter.unusedVariables false
/-- Bytes, with bytes 0 behind them, up to a multiple of 16. -/
def padN (n : Nat) : Nat := (16 - n % 16) % 16
def fillI (ws : List Int) : List Int := ws ++ List.replicate (padN ws.length) 0
theorem fillI_length (ws : List Int) : (fillI ws).length = ws.length + padN ws.length := by simp [fillI]
theorem fillI_mem (ws : List Int) (h : ∀ b ∈ ws, 0 ≤ b ∧ b ≤ 255) : ∀ b ∈ fillI ws, 0 ≤ b ∧ b ≤ 255 := by
  intro b hb
  rcases List.mem_append.1 hb with h1 | h1
  · exact h b h1
  · rw [(List.mem_replicate.1 h1).2]; omega
/-- What is summed up to seal. -/
def allI (ws es : List Int) : List Int := fillI es ++ fillI ws ++ bytesN es.length 8 ++ bytesN ws.length 8
def markI (ks ns ws es : List Int) : List Int := polyI ((blockI ks 0 ns).take 32) (allI ws es)
def sealI (ks ns ws es : List Int) : List Int := xorI ks 1 ns ws ++ markI ks ns (xorI ks 1 ns ws) es
theorem bytesN_mem' (n m : Nat) : ∀ b ∈ bytesN n m, 0 ≤ b ∧ b ≤ 255 := bytesN_mem n m
theorem markI_length (ks ns ws es : List Int) : (markI ks ns ws es).length = 16 := bytesN_length _ _
theorem markI_mem (ks ns ws es : List Int) : ∀ b ∈ markI ks ns ws es, 0 ≤ b ∧ b ≤ 255 := bytesN_mem _ _
theorem bI_cat (a b : ByteArray) : bI (a ++ b) = bI a ++ bI b := by simp [bI]
theorem str_cat (a b : List Int) : strOfNums (a ++ b) = strOfNums a ++ strOfNums b := by
  unfold strOfNums
  simp
  rfl
theorem str_size (a : List Int) : (strOfNums a).size = a.length := by simp [strOfNums, ByteArray.size]
set_option maxRecDepth 100000 in
set_option maxHeartbeats 1000000 in
theorem rfilled_calls (s : ByteArray) (hs : s.size ≤ 10000000) (w : World) :
    Calls Tryz.prog 72 #[.string s] w fun e w' => e = .returned (.string (strOfNums (fillI (bI s)))) ∧ Below w.heap.size w w' := by
  have hone := run_one
  go_enter Tryz.func72, Tryz.ntmps72
  go_wp2_with fail
  go_loopw [0] (fun v wr => ∃ (j : Nat) (t : ByteArray), v = .string t ∧ j ≤ padN s.size ∧ bI t = bI s ++ List.replicate j 0 ∧ t.size = s.size + j ∧ Below w.heap.size w wr) (fun v _ => match v with | .string t => s.size + padN s.size - t.size | _ => 0)
  case atStart => exact ⟨0, s, rfl, by omega, by simp, by omega, Below.refl _ w⟩
  case round =>
    obtain ⟨j, t, rfl, hj, ht, hz, hB⟩ := hrel
    have hp : padN s.size = (16 - s.size % 16) % 16 := rfl
    have HP := Lib.hid hp; have HT := Lib.hid ht; have HZ := Lib.hid hz
    by_cases h : t.size % 16 = 0
    · have hjj : j = padN s.size := by omega
      have HJ := Lib.hid hjj
      have i1 : (t.size : Int) % 16 = 0 := by omega
      clear hp ht hz h hjj
      go_wp2_with fail
      go_ret
      refine ⟨?_, hB⟩
      show Ending.returned (.string t) = _
      rw [← str_bI t, HT.out, HJ.out]
      unfold fillI
      rw [bI_length]
    · have hjj : j + 1 ≤ padN s.size := by omega
      have i1 : ¬ (t.size : Int) % 16 = 0 := by omega
      have s1 : (strOfNums [0]).size = 1 := str_size _
      have hc : t.size + (strOfNums [0]).size ≤ 10000017 := by omega
      have S1 := Lib.hid s1
      clear hp ht hz h s1
      go_wp2_with fail
      go_roundw
      case rel => exact ⟨j + 1, _, rfl, hjj, by rw [bI_cat, HT.out, bI_str (by decide), List.append_assoc]; rw [← List.replicate_succ'], by rw [ByteArray.size_append, S1.out, HZ.out]; omega, hB.alloc hB.size _⟩
      case measure => simp [ByteArray.size_append, S1.out]; have := HZ.out; omega
set_option maxRecDepth 100000 in
set_option maxHeartbeats 1000000 in
theorem rmark_calls (key nonce sealed extra : ByteArray) (hk : key.size = 32) (hn : nonce.size = 12) (hs : sealed.size ≤ 1000000) (he : extra.size ≤ 1000000) (w : World) :
    Calls Tryz.prog 53 #[.string key, .string nonce, .string sealed, .string extra] w
      fun e w' => e = .returned (.string (strOfNums (markI (bI key) (bI nonce) (bI sealed) (bI extra)))) ∧ Below w.heap.size w w' := by
  have HK := Lib.hid hk; have HN := Lib.hid hn; clear hk hn
  go_enter Tryz.func53, Tryz.ntmps53
  go_wp2_with fail
  refine (rblock_calls key nonce 0 HK.out HN.out (by decide) (by decide) w).mono ?_
  rintro e w1 ⟨rfl, hB1⟩
  obtain ⟨Z, hZ⟩ : ∃ Z, Z = blockI (bI key) (0 % 4294967296) (bI nonce) := ⟨_, rfl⟩
  have hZl : Z.length = 64 := by rw [hZ]; exact blockI_length _ _ _
  have hZm : ∀ b ∈ Z, 0 ≤ b ∧ b ≤ 255 := by rw [hZ]; exact blockI_mem _ _ _
  rw [← hZ]
  have hzs : (strOfNums Z).size = 64 := by rw [str_size, hZl]
  obtain ⟨Y, hY⟩ : ∃ Y, Y = (strOfNums Z).extract 0 32 := ⟨_, rfl⟩
  have hYb : bI Y = Z.take 32 := by
    rw [hY]
    have e : bI ((strOfNums Z).extract 0 32) = (bI (strOfNums Z)).take 32 := by simp [bI]
    rw [e, bI_str hZm]
  have hYs : Y.size = 32 := by rw [← bI_length, hYb, List.length_take, hZl]; rfl
  have hye := hY.symm
  have HZ := Lib.hid hZ; have HYB := Lib.hid hYb; have HYS := Lib.hid hYs
  have HB1 := Lib.hid hB1
  clear hZ hZl hZm hY hYb hYs hB1
  go_wp2_with fail
  clear hye hzs
  refine (rfilled_calls extra (by omega) w1).mono ?_
  rintro e w2 ⟨rfl, hb2⟩
  have HB2 := Lib.hid (HB1.out.trans (hb2.mono HB1.out.size))
  clear hb2
  obtain ⟨E, hE⟩ : ∃ E, E = strOfNums (fillI (bI extra)) := ⟨_, rfl⟩
  have hEs : E.size ≤ 1000015 := by rw [hE, str_size, fillI_length, bI_length]; unfold padN; omega
  rw [← hE]
  have HE := Lib.hid hE; have HES := Lib.hid hEs
  clear hE hEs
  go_wp2_with fail
  refine (rfilled_calls sealed (by omega) w2).mono ?_
  rintro e w3 ⟨rfl, hb3⟩
  have HB3 := Lib.hid (HB2.out.trans (hb3.mono HB2.out.size))
  clear hb3
  obtain ⟨F, hF⟩ : ∃ F, F = strOfNums (fillI (bI sealed)) := ⟨_, rfl⟩
  have hFs : F.size ≤ 1000015 := by rw [hF, str_size, fillI_length, bI_length]; unfold padN; omega
  rw [← hF]
  have HF := Lib.hid hF; have HFS := Lib.hid hFs
  have hc : E.size + F.size ≤ 2000030 := by have := HES.out; omega
  clear hF hFs
  go_wp2_with fail
  refine (small_calls extra.size (by omega) w3).mono ?_
  rintro e w4 ⟨g4, c4, rfl, hD4, hb4⟩
  have HD4 := Lib.hid hD4; have HB4 := Lib.hid (HB3.out.trans (hb4.mono HB3.out.size))
  clear hD4 hb4 hc
  go_wp2_with fail
  refine (bytes_calls extra.size 8 g4 c4 (by decide) w4 HD4.out).mono ?_
  rintro e w5 ⟨rfl, hb5⟩
  have HB5 := Lib.hid (HB4.out.trans (hb5.mono HB4.out.size))
  clear hb5
  obtain ⟨X, hX⟩ : ∃ X, X = strOfNums (bytesN extra.size 8) := ⟨_, rfl⟩
  have hXs : X.size = 8 := by rw [hX, str_size, bytesN_length]
  rw [← hX]
  have HX := Lib.hid hX; have HXS := Lib.hid hXs
  have hc : (E ++ F).size + X.size ≤ 2000038 := by rw [ByteArray.size_append]; have := HES.out; have := HFS.out; omega
  clear hX hXs
  go_wp2_with fail
  refine (small_calls sealed.size (by omega) w5).mono ?_
  rintro e w6 ⟨g6, c6, rfl, hD6, hb6⟩
  have HD6 := Lib.hid hD6; have HB6 := Lib.hid (HB5.out.trans (hb6.mono HB5.out.size))
  clear hD6 hb6 hc
  go_wp2_with fail
  refine (bytes_calls sealed.size 8 g6 c6 (by decide) w6 HD6.out).mono ?_
  rintro e w7 ⟨rfl, hb7⟩
  have HB7 := Lib.hid (HB6.out.trans (hb7.mono HB6.out.size))
  clear hb7
  obtain ⟨V, hV⟩ : ∃ V, V = strOfNums (bytesN sealed.size 8) := ⟨_, rfl⟩
  have hVs : V.size = 8 := by rw [hV, str_size, bytesN_length]
  rw [← hV]
  have HV := Lib.hid hV; have HVS := Lib.hid hVs
  have hc : (E ++ F ++ X).size + V.size ≤ 2000046 := by rw [ByteArray.size_append, ByteArray.size_append]; have := HES.out; have := HFS.out; have := HXS.out; omega
  have HC := Lib.hid hc
  clear hV hVs
  have hall : bI (E ++ F ++ X ++ V) = allI (bI sealed) (bI extra) := by
    rw [bI_cat, bI_cat, bI_cat, HE.out, HF.out, HX.out, HV.out, bI_str (fillI_mem _ (mem_of_U8s (U8s_bI extra))), bI_str (fillI_mem _ (mem_of_U8s (U8s_bI sealed))), bI_str (bytesN_mem _ _), bI_str (bytesN_mem _ _)]
    unfold allI
    rw [bI_length, bI_length]
  have HALL := Lib.hid hall
  clear hall
  go_wp2_with fail
  clear hc
  refine (rsum_calls Y (E ++ F ++ X ++ V) HYS.out (by rw [ByteArray.size_append]; have := HC.out; omega) w7).mono ?_
  rw [HALL.out, HYB.out, HZ.out, show polyI (List.take 32 (blockI (bI key) (0 % 4294967296) (bI nonce))) (allI (bI sealed) (bI extra)) = markI (bI key) (bI nonce) (bI sealed) (bI extra) from rfl]
  rintro e w8 ⟨rfl, hb8⟩
  have HB8 := Lib.hid (HB7.out.trans (hb8.mono HB7.out.size))
  clear hb8
  go_wp2_with fail
  go_ret
  exact ⟨rfl, HB8.out⟩
end Go.Proofs.YtfoljmpphbhobaaGreatDoor
namespace Go.Proofs.YtfoljmpphbhobaaGreatDoor
open Go.RowKit Go.Spk
set_option linter.unusedVariables false
set_option maxRecDepth 100000 in
set_option maxHeartbeats 1000000 in
theorem rseal_calls (key nonce text extra : ByteArray) (hk : key.size = 32) (hn : nonce.size = 12) (hs : text.size ≤ 1000000) (he : extra.size ≤ 1000000) (w : World) :
    Calls Tryz.prog 31 #[.string key, .string nonce, .string text, .string extra] w
      fun e w' => e = .returned (.string (strOfNums (sealI (bI key) (bI nonce) (bI text) (bI extra)))) ∧ Below w.heap.size w w' := by
  have HK := Lib.hid hk; have HN := Lib.hid hn; clear hk hn
  go_enter Tryz.func31, Tryz.ntmps31
  go_wp2_with fail
  refine (rxor_calls key nonce text 1 HK.out HN.out (by decide) (by decide) (by omega) w).mono ?_
  rintro e w1 ⟨rfl, hB1⟩
  obtain ⟨X, hX⟩ : ∃ X, X = strOfNums (xorI (bI key) 1 (bI nonce) (bI text)) := ⟨_, rfl⟩
  have hXb : bI X = xorI (bI key) 1 (bI nonce) (bI text) := by rw [hX, bI_str (xorI_mem _ _ _ _)]
  have hXs : X.size = text.size := by rw [← bI_length, hXb, xorI_length, bI_length]
  rw [← hX]
  have HX := Lib.hid hX; have HXB := Lib.hid hXb; have HXS := Lib.hid hXs; have HB1 := Lib.hid hB1
  clear hX hXb hXs hB1
  go_wp2_with fail
  refine (rmark_calls key nonce X extra HK.out HN.out (by rw [HXS.out]; exact hs) he w1).mono ?_
  rintro e w2 ⟨rfl, hb2⟩
  obtain ⟨M, hM⟩ : ∃ M, M = strOfNums (markI (bI key) (bI nonce) (bI X) (bI extra)) := ⟨_, rfl⟩
  have hMs : M.size = 16 := by rw [hM, str_size, markI_length]
  rw [← hM]
  have hall : X ++ M = strOfNums (sealI (bI key) (bI nonce) (bI text) (bI extra)) := by
    unfold sealI
    rw [str_cat, ← HX.out, ← HXB.out, ← hM]
  have hc : X.size + M.size ≤ 1000016 := by rw [hMs, HXS.out]; omega
  have HB2 := Lib.hid (HB1.out.trans (hb2.mono HB1.out.size)); have HALL := Lib.hid hall
  clear hM hMs hb2 hall
  go_wp2_with fail
  go_ret
  exact ⟨by rw [← HALL.out]; rfl, HB2.out⟩
/-- Is it the text's sum that stands at the end? -/
def fitsI (ks ns ws es : List Int) : Bool := markI ks ns (ws.take (ws.length - 16)) es == ws.drop (ws.length - 16)
/-- What Open answers: the text, the error's number. -/
def openS (ks ns ws es : List Int) : List Int := if ws.length < 16 then [] else if fitsI ks ns ws es then xorI ks 1 ns (ws.take (ws.length - 16)) else []
def openC (ks ns ws es : List Int) : Int := if ws.length < 16 then 2 else if fitsI ks ns ws es then 0 else 5
theorem bI_inj' {a b : ByteArray} (h : bI a = bI b) : a = b := by rw [← str_bI a, h, str_bI]
theorem toList_ne {a b : ByteArray} (h : ¬ a = b) : ¬ a.toList = b.toList := fun e => h (by
  rw [ByteArray.toList_eq, ByteArray.toList_eq] at e
  cases a; cases b
  simp at e
  rw [e])
theorem nil_str : strOfNums [] = { data := #[] } := rfl
set_option maxRecDepth 100000 in
set_option maxHeartbeats 1000000 in
theorem ropen_calls (key nonce s extra : ByteArray) (hk : key.size = 32) (hn : nonce.size = 12) (hs : s.size ≤ 1000000) (he : extra.size ≤ 1000000) (w : World) :
    Calls Tryz.prog 37 #[.string key, .string nonce, .string s, .string extra] w
      fun e w' => e = .returned (.tuple #[.string (strOfNums (openS (bI key) (bI nonce) (bI s) (bI extra))), .int .i64 (openC (bI key) (bI nonce) (bI s) (bI extra))]) ∧ Below w.heap.size w w' := by
  have HK := Lib.hid hk; have HN := Lib.hid hn; clear hk hn
  by_cases hl : s.size < 16
  · have i1 : (s.size : Int) < 16 := by omega
    have e1 : openS (bI key) (bI nonce) (bI s) (bI extra) = [] := by unfold openS; rw [bI_length, if_pos hl]
    have e2 : openC (bI key) (bI nonce) (bI s) (bI extra) = 2 := by unfold openC; rw [bI_length, if_pos hl]
    rw [e1, e2, nil_str]
    clear e1 e2
    go_enter Tryz.func37, Tryz.ntmps37
    go_wp2_with fail
    go_ret2
    exact ⟨rfl, Below.refl _ w⟩
  · have i1 : ¬ (s.size : Int) < 16 := by omega
    obtain ⟨n, hnn⟩ : ∃ n, s.size = n + 16 := ⟨s.size - 16, by omega⟩
    have i2 : (s.size : Int) - 16 = n := by omega
    have i3 : (n : Int) ≤ s.size := by omega
    obtain ⟨A, hA⟩ : ∃ A, A = s.extract 0 n := ⟨_, rfl⟩
    obtain ⟨T, hT⟩ : ∃ T, T = s.extract n s.size := ⟨_, rfl⟩
    have bA : bI A = (bI s).take n := by rw [hA]; simp [bI]
    have bT : bI T = (bI s).drop n := by
      rw [hT]; simp [bI]
      rw [List.take_of_length_le (by simp)]
    have sA : A.size ≤ 1000000 := by rw [← bI_length, bA, List.length_take, bI_length]; omega
    obtain ⟨M, hM⟩ : ∃ M, M = strOfNums (markI (bI key) (bI nonce) (bI A) (bI extra)) := ⟨_, rfl⟩
    obtain ⟨X, hX⟩ : ∃ X, X = strOfNums (xorI (bI key) 1 (bI nonce) (bI A)) := ⟨_, rfl⟩
    have hfit : fitsI (bI key) (bI nonce) (bI s) (bI extra) = decide (M = T) := by
      unfold fitsI
      rw [bI_length, show s.size - 16 = n by omega, ← bA, ← bT, hM]
      rw [Bool.eq_iff_iff]
      simp only [beq_iff_eq, decide_eq_true_eq]
      constructor
      · intro h; rw [h, str_bI]
      · intro h; rw [← h, bI_str (markI_mem _ _ _ _)]
    have e1 : openS (bI key) (bI nonce) (bI s) (bI extra) = if M = T then xorI (bI key) 1 (bI nonce) (bI A) else [] := by
      unfold openS; rw [bI_length, if_neg hl, hfit, show s.size - 16 = n by omega, ← bA]; simp only [decide_eq_true_eq]
    have e2 : openC (bI key) (bI nonce) (bI s) (bI extra) = if M = T then 0 else 5 := by
      unfold openC; rw [bI_length, if_neg hl, hfit]; simp only [decide_eq_true_eq]
    rw [e1, e2]
    have HA := Lib.hid hA.symm; have HT := Lib.hid hT.symm; have HM := Lib.hid hM; have HX := Lib.hid hX; have SA := Lib.hid sA
    clear hA hT bA bT sA hM hX hfit e1 e2
    clear hnn hl
    have ha := HA.out; have ht := HT.out
    by_cases hq : M = T
    · subst hq
      rw [if_pos rfl, if_pos rfl, ← HX.out]
      go_enter Tryz.func37, Tryz.ntmps37
      go_wp2_with fail
      refine wp_region_class (fun W => Below w.heap.size w W) (by kernel_rfl) (by kernel_rfl) (below_drawnN (Below.refl _ w) 1) ?_
      refine wpQuiet_step (fun K hK => ?_)
      refine quiet_want (by kernel_rfl) ⟨(.string key), fun W hW => ?_, ?_⟩
      · refine quietAt_val ?_
        go_simp
      go_simp
      refine hK _ ?_
      clear hK K
      refine wpQuiet_step (fun K hK => ?_)
      refine quiet_want (by kernel_rfl) ⟨(.string nonce), fun W hW => ?_, ?_⟩
      · refine quietAt_val ?_
        go_simp
      go_simp
      refine hK _ ?_
      clear hK K
      refine wpQuiet_step (fun K hK => ?_)
      refine quiet_want (by kernel_rfl) ⟨(.string s), fun W hW => ?_, ?_⟩
      · refine quietAt_val ?_
        go_simp
      go_simp
      refine hK _ ?_
      clear hK K
      refine wpQuiet_step (fun K hK => ?_)
      refine quiet_want (by kernel_rfl) ⟨(.int .i64 (n : Int)), fun W hW => ?_, ?_⟩
      · refine quietAt_val ?_
        go_simp
      go_simp
      refine hK _ ?_
      clear hK K
      refine wpQuiet_step (fun K hK => ?_)
      refine quiet_want (by kernel_rfl) ⟨(.string A), fun W hW => ?_, ?_⟩
      · refine quietAt_val ?_
        go_simp
      go_simp
      refine hK _ ?_
      clear hK K
      refine wpQuiet_step (fun K hK => ?_)
      refine quiet_want (by kernel_rfl) ⟨(.string extra), fun W hW => ?_, ?_⟩
      · refine quietAt_val ?_
        go_simp
      go_simp
      refine hK _ ?_
      clear hK K
      refine wpQuiet_step (fun K hK => ?_)
      refine quiet_want (by kernel_rfl) ⟨(.string M), fun W hW => ?_, ?_⟩
      · refine quietAt_call (f := 53) (args := (#[.string key, .string nonce, .string A, .string extra])) (by go_simp) ?_
        refine (rmark_calls key nonce A extra HK.out HN.out SA.out he W).mono ?_
        rw [← HM.out]
        rintro e W' ⟨rfl, hb⟩
        exact ⟨rfl, hW.trans (hb.mono hW.size)⟩
      go_simp
      refine hK _ ?_
      clear hK K
      refine wpQuiet_step (fun K hK => ?_)
      refine quiet_want (by kernel_rfl) ⟨(.string s), fun W hW => ?_, ?_⟩
      · refine quietAt_val ?_
        go_simp
      go_simp
      refine hK _ ?_
      clear hK K
      refine wpQuiet_step (fun K hK => ?_)
      refine quiet_want (by kernel_rfl) ⟨(.int .i64 (n : Int)), fun W hW => ?_, ?_⟩
      · refine quietAt_val ?_
        go_simp
      go_simp
      refine hK _ ?_
      clear hK K
      refine wpQuiet_step (fun K hK => ?_)
      refine quiet_want (by kernel_rfl) ⟨(.string M), fun W hW => ?_, ?_⟩
      · refine quietAt_val ?_
        go_simp
      go_simp
      refine hK _ ?_
      clear hK K
      refine wpQuiet_step (fun K hK => ?_)
      refine quiet_want (by kernel_rfl) ⟨(.bool false), fun W hW => ?_, ?_⟩
      · refine quietAt_val ?_
        go_simp
      go_simp
      refine hK _ ?_
      clear hK K
      refine wpQuiet_nil ?_
      intro W1 hB1
      have HB1 := Lib.hid hB1
      clear hB1
      go_wp2_with fail
      refine (rxor_calls key nonce A 1 HK.out HN.out (by decide) (by decide) (by have := SA.out; omega) W1).mono ?_
      rw [← HX.out]
      rintro e w2 ⟨rfl, hb2⟩
      have HB2 := Lib.hid (HB1.out.trans (hb2.mono HB1.out.size))
      clear hb2
      go_wp2_with fail
      go_ret2
      exact ⟨rfl, HB2.out⟩
    · rw [if_neg hq, if_neg hq, nil_str]
      go_enter Tryz.func37, Tryz.ntmps37
      go_wp2_with fail
      refine wp_region_class (fun W => Below w.heap.size w W) (by kernel_rfl) (by kernel_rfl) (below_drawnN (Below.refl _ w) 1) ?_
      refine wpQuiet_step (fun K hK => ?_)
      refine quiet_want (by kernel_rfl) ⟨(.string key), fun W hW => ?_, ?_⟩
      · refine quietAt_val ?_
        go_simp
      go_simp
      refine hK _ ?_
      clear hK K
      refine wpQuiet_step (fun K hK => ?_)
      refine quiet_want (by kernel_rfl) ⟨(.string nonce), fun W hW => ?_, ?_⟩
      · refine quietAt_val ?_
        go_simp
      go_simp
      refine hK _ ?_
      clear hK K
      refine wpQuiet_step (fun K hK => ?_)
      refine quiet_want (by kernel_rfl) ⟨(.string s), fun W hW => ?_, ?_⟩
      · refine quietAt_val ?_
        go_simp
      go_simp
      refine hK _ ?_
      clear hK K
      refine wpQuiet_step (fun K hK => ?_)
      refine quiet_want (by kernel_rfl) ⟨(.int .i64 (n : Int)), fun W hW => ?_, ?_⟩
      · refine quietAt_val ?_
        go_simp
      go_simp
      refine hK _ ?_
      clear hK K
      refine wpQuiet_step (fun K hK => ?_)
      refine quiet_want (by kernel_rfl) ⟨(.string A), fun W hW => ?_, ?_⟩
      · refine quietAt_val ?_
        go_simp
      go_simp
      refine hK _ ?_
      clear hK K
      refine wpQuiet_step (fun K hK => ?_)
      refine quiet_want (by kernel_rfl) ⟨(.string extra), fun W hW => ?_, ?_⟩
      · refine quietAt_val ?_
        go_simp
      go_simp
      refine hK _ ?_
      clear hK K
      refine wpQuiet_step (fun K hK => ?_)
      refine quiet_want (by kernel_rfl) ⟨(.string M), fun W hW => ?_, ?_⟩
      · refine quietAt_call (f := 53) (args := (#[.string key, .string nonce, .string A, .string extra])) (by go_simp) ?_
        refine (rmark_calls key nonce A extra HK.out HN.out SA.out he W).mono ?_
        rw [← HM.out]
        rintro e W' ⟨rfl, hb⟩
        exact ⟨rfl, hW.trans (hb.mono hW.size)⟩
      go_simp
      refine hK _ ?_
      clear hK K
      refine wpQuiet_step (fun K hK => ?_)
      refine quiet_want (by kernel_rfl) ⟨(.string s), fun W hW => ?_, ?_⟩
      · refine quietAt_val ?_
        go_simp
      go_simp
      refine hK _ ?_
      clear hK K
      refine wpQuiet_step (fun K hK => ?_)
      refine quiet_want (by kernel_rfl) ⟨(.int .i64 (n : Int)), fun W hW => ?_, ?_⟩
      · refine quietAt_val ?_
        go_simp
      go_simp
      refine hK _ ?_
      clear hK K
      refine wpQuiet_step (fun K hK => ?_)
      refine quiet_want (by kernel_rfl) ⟨(.string T), fun W hW => ?_, ?_⟩
      · refine quietAt_val ?_
        go_simp
      go_simp
      refine hK _ ?_
      clear hK K
      refine wpQuiet_step (fun K hK => ?_)
      refine quiet_want (by kernel_rfl) ⟨(.bool true), fun W hW => ?_, ?_⟩
      · refine quietAt_val ?_
        have h1 := toList_ne hq
        go_simp
      go_simp
      refine hK _ ?_
      clear hK K
      refine wpQuiet_nil ?_
      intro W1 hB1
      have HB1 := Lib.hid hB1
      clear hB1
      go_wp2_with fail
      go_ret2
      exact ⟨rfl, HB1.out⟩
end Go.Proofs.YtfoljmpphbhobaaGreatDoor
