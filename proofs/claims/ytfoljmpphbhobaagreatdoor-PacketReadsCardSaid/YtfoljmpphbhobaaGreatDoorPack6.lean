/- packet's Next where the whole packet is there. (Printed by genpack6.py.) -/
import Derived.Test.YtfoljmpphbhobaaGreatDoorPack5
namespace Go.Proofs.YtfoljmpphbhobaaGreatDoor
open Go.RowKit Go.Spk
set_option linter.unusedVariables false
attribute [local go_sem ↓] Go.wp_at_zero Go.wp_at_succ
theorem body_is (b : Bool) (ks : List Int) (n m : Nat) (s : ByteArray) (vE vM : Value) :
    bodyV b ks n (s.extract 0 4) (s.extract 4 (allR b m)) vE vM = .tuple #[.string (strOfNums (bodyR b ks n m (bI s))), errV (bodyC b ks n m (bI s)) vE vM] := by
  have e1 : bI (s.extract 0 4) = (bI s).take 4 := by rw [bI_mid]; rfl
  have e2 : bI (s.extract 4 (allR b m)) = rawR b m (bI s) := by rw [bI_mid]; unfold rawR allR; congr 1; omega
  unfold bodyV bodyR bodyC
  rw [e1, e2]
  cases b
  · simp [errV]
  · simp
theorem bodyR_u8 (b : Bool) (ks : List Int) (n m : Nat) (s : ByteArray) : ∀ z ∈ bodyR b ks n m (bI s), 0 ≤ z ∧ z ≤ 255 := by
  unfold bodyR
  cases b
  · intro z hz
    simp only [Bool.false_eq_true, if_false] at hz
    unfold rawR at hz
    exact mem_of_U8s (U8s_bI s) z (List.mem_of_mem_drop (List.mem_of_mem_take hz))
  · simp only [if_true]
    unfold openS
    split
    · intro z hz; cases hz
    · split
      · exact xorI_mem _ _ _ _
      · intro z hz; cases hz
theorem bodyR_len (b : Bool) (ks : List Int) (n m : Nat) (s : ByteArray) (hc : bodyC b ks n m (bI s) = 0) (hs : ¬ s.size < allR b m) : (bodyR b ks n m (bI s)).length = m := by
  have hr : (rawR b m (bI s)).length = m + tagN b := by
    unfold rawR allR at *
    rw [List.length_take, List.length_drop, bI_length]; omega
  unfold bodyR
  unfold bodyC at hc
  cases b
  · simp only [Bool.false_eq_true, if_false]; rw [hr]; rfl
  · simp only [if_true] at hc ⊢
    unfold openC at hc
    unfold openS
    split at hc
    · cases hc
    · rename_i h16
      rw [if_neg h16]
      split at hc
      · rename_i hf
        rw [if_pos hf, xorI_length, List.length_take, hr]
        have : tagN true = 16 := rfl
        omega
      · cases hc
theorem out_is (R : List Int) (hR : ∀ z ∈ R, 0 ≤ z ∧ z ≤ 255) (j : Nat) : (strOfNums R).extract 1 j = strOfNums ((R.take j).drop 1) := by
  apply bI_ext
  rw [bI_mid, bI_str hR, bI_str (fun z hz => hR z (List.mem_of_mem_take (List.mem_of_mem_drop hz))), List.drop_take]
/-- A payload has come up. -/
def NextGot (w : World) (g n : Nat) (b : Bool) (ks : List Int) (out : List Int) (s : ByteArray) (e : Ending) (w' : World) : Prop :=
  e = .returned (.tuple #[.string (strOfNums out), .bool true, .nilIface]) ∧ Whole w' g 44 (lineRow (n + 1) b ks ++ #[.string s, .nilIface]) ∧ w.grownBy w' (some g)
set_option maxRecDepth 100000 in
set_option maxHeartbeats 4000000 in
theorem next_mac (g n : Nat) (b : Bool) (ks : List Int) (s : ByteArray) (E : Nat → Addr) (hk : ks.length = 32) (bk : U8s ks) (hn : n ≤ 1000000000) (h4 : 4 ≤ s.size) (hs : s.size ≤ 1000000) (hb : lenR (bI s) ≤ 33024) (hf : formB b (lenR (bI s)) = false) (hw : ¬ s.size < allR b (lenR (bI s))) (k : Nat) (hc : errV (bodyC b ks n (lenR (bI s)) (bI s)) (errI (E 1)) (errI (E 4)) = errI (E k)) (w : World) (hE : Er4 w E) (h : Whole w g 44 (lineRow n b ks ++ #[.string s, .nilIface]))
   (t0 : w.rangeAt 21 0 (beginI.map (Value.int .u32))) (t1 : w.rangeAt 22 0 orderC) :
    Calls Tryz.prog 16 #[.pointer (some ⟨g, 0, none⟩)] w (NextBad w g n b ks (errI (E k))) := by
  obtain ⟨c34, c35⟩ := read_cells hk h
  have c1 := (line_cells h).2
  have i4 : ¬ (s.size : Int) < 4 := by omega
  obtain ⟨hm, hmb⟩ := lenR_int s
  have hV := body_is b ks n (lenR (bI s)) s (errI (E 1)) (errI (E 4))
  rw [hc] at hV
  generalize strOfNums (bodyR b ks n (lenR (bI s)) (bI s)) = T at hV
  clear hc
  generalize lenR (bI s) = m at hm hmb hb hf hw hV
  have i5 : ¬ (33024 : Int) < m := by omega
  obtain ⟨A, hA⟩ : ∃ A, A = aheadN b := ⟨_, rfl⟩
  have hA4 : A ≤ 4 := by rw [hA]; cases b <;> decide
  obtain ⟨hf, hg⟩ := form_no hf
  have i6 : ¬ (m : Int) + A < A * 2 + 8 := by rw [hA]; omega
  have i7 : ((((m : Int) + A) % 8 != 0) = false) := by rw [bne_eq_false_iff_eq]; rw [hA]; omega
  have i8 : ((((m : Int) + A) % 8 == 0) = true) := by rw [beq_iff_eq]; rw [hA]; omega
  have i9 : ((m : Int) + A) % 8 = 0 := by rw [hA]; omega
  obtain ⟨L, hL⟩ : ∃ L, L = allR b m := ⟨_, rfl⟩
  have i10 : ¬ (s.size : Int) < L := by omega
  have i11 : (L : Int) ≤ s.size := by omega
  have i12 : (4 : Int) ≤ L := by rw [hL]; unfold allR; omega
  have i13 : (4 : Int) ≤ s.size := by omega
  have hm8 : 8 ≤ m := by
    have h1 := hf; have h2 := hg
    rcases aheadN_or b with ⟨e, _⟩ | ⟨e, _⟩ <;> rw [e] at h1 h2 <;> omega
  have hL2 : (L : Int) = 4 + m + (tagN b : Nat) := by rw [hL]; unfold allR; omega
  rw [← hL] at hV
  have HVB := Lib.hid hV
  clear hV
  have HA := Lib.hid hA; have HL := Lib.hid hL2; have HLL := Lib.hid hL; have HM8 := Lib.hid hm8; have HWW := Lib.hid hw
  clear hA hf hg hL hL2 hw hm8
  have HM := Lib.hid hm
  have T0 := Lib.hid t0; have T1 := Lib.hid t1; have HE := Lib.hid hE; have HH := Lib.hid h; have HK := Lib.hid hk; have BK := Lib.hid bk; have HN := Lib.hid hn
  clear t0 t1 hE h hk bk hn hm
  go_enter Tryz.func16, Tryz.ntmps16
  go_wp2_with fail
  refine (wireOf_calls s _).mono ?_
  rintro e w1 ⟨rfl, rfl⟩
  go_wp2_with fail
  refine (inU32_calls w.heap.size s h4 w.heap.size (Nat.le_refl _) _ (Whole.made w _ _)).mono ?_
  rw [HM.out]
  rintro e W1 ⟨rfl, hb1⟩
  have HB1 := Lib.hid (((Below.refl w.heap.size w).alloc (Nat.le_refl _) _).trans hb1)
  clear hb1 c34 c35 c1
  have HW1 := Lib.hid (HH.out.below HB1.out HH.out.inside)
  have HE1 := Lib.hid (HE.out.below HB1.out)
  obtain ⟨c34, c35⟩ := read_cells HK.out HW1.out
  have c1 := (line_cells HW1.out).2
  have HAC := Lib.hid (show ∀ w : World, w.cell? ⟨g, 1, none⟩ = some (.bool b) → Calls Tryz.prog 21 #[.pointer (some ⟨g, 0, none⟩)] w (fun e w' => e = .returned (.int .i64 (A : Int)) ∧ w' = w) from fun w h => by rw [HA.out]; exact ahead_c g b w h)
  go_wp2_with fail
  go_quiet ((go_at_call 21; exact Calls.quiet_of_same (HAC.out _ c1)))
  generalize hW2 : World.drewN W1 _ = W2
  have HB2 := Lib.hid (show Below w.heap.size w W2 by rw [← hW2]; exact below_drawnN HB1.out _)
  clear hW2 c34 c35 c1
  have HW2 := Lib.hid (HH.out.below HB2.out HH.out.inside)
  have HE2 := Lib.hid (HE.out.below HB2.out)
  obtain ⟨c34, c35⟩ := read_cells HK.out HW2.out
  have c1 := (line_cells HW2.out).2
  go_wp2_with fail
  refine (HAC.out _ c1).mono ?_
  rintro e w2 ⟨rfl, hw⟩
  obtain rfl := hw.symm
  have hL2 := HL.out
  cases b
  · have hL3 : (4 : Int) + m = L := by have := HL.out; simpa [tagN] using this.symm
    clear hL2
    go_wp2_with fail
    refine wp_region_class (fun W => Below w.heap.size w W) (by kernel_rfl) (by kernel_rfl) (below_drawnN HB2.out 1) ?_
    refine wpQuiet_step (fun K hK => ?_)
    refine quiet_want (by kernel_rfl) ⟨(.pointer (some ⟨g, 0, none⟩)), fun W hW => ?_, ?_⟩
    · refine quietAt_val ?_
      go_simp
    go_simp
    refine hK _ ?_
    clear hK K
    refine wpQuiet_step (fun K hK => ?_)
    refine quiet_want (by kernel_rfl) ⟨(.pointer (some ⟨g, 0, none⟩)), fun W hW => ?_, ?_⟩
    · refine quietAt_val ?_
      go_simp
    go_simp
    refine hK _ ?_
    clear hK K
    refine wpQuiet_step (fun K hK => ?_)
    refine quiet_want (by kernel_rfl) ⟨(.pointer (some ⟨g, 0, none⟩)), fun W hW => ?_, ?_⟩
    · refine quietAt_val ?_
      go_simp
    go_simp
    refine hK _ ?_
    clear hK K
    refine wpQuiet_step (fun K hK => ?_)
    refine quiet_want (by kernel_rfl) ⟨(.pointer (some ⟨g, 34, none⟩)), fun W hW => ?_, ?_⟩
    · refine quietAt_val ?_
      go_simp
    go_simp
    refine hK _ ?_
    clear hK K
    refine wpQuiet_step (fun K hK => ?_)
    refine quiet_want (by kernel_rfl) ⟨(.string s), fun W hW => ?_, ?_⟩
    · refine quietAt_val ?_
      have hc := (read_cells HK.out (HH.out.below hW HH.out.inside)).1
      go_simp
    go_simp
    refine hK _ ?_
    clear hK K
    refine wpQuiet_step (fun K hK => ?_)
    refine quiet_want (by kernel_rfl) ⟨(.string (s.extract 0 4)), fun W hW => ?_, ?_⟩
    · refine quietAt_val ?_
      go_simp
    go_simp
    refine hK _ ?_
    clear hK K
    refine wpQuiet_step (fun K hK => ?_)
    refine quiet_want (by kernel_rfl) ⟨(.pointer (some ⟨g, 0, none⟩)), fun W hW => ?_, ?_⟩
    · refine quietAt_val ?_
      go_simp
    go_simp
    refine hK _ ?_
    clear hK K
    refine wpQuiet_step (fun K hK => ?_)
    refine quiet_want (by kernel_rfl) ⟨(.pointer (some ⟨g, 0, none⟩)), fun W hW => ?_, ?_⟩
    · refine quietAt_val ?_
      go_simp
    go_simp
    refine hK _ ?_
    clear hK K
    refine wpQuiet_step (fun K hK => ?_)
    refine quiet_want (by kernel_rfl) ⟨(.pointer (some ⟨g, 34, none⟩)), fun W hW => ?_, ?_⟩
    · refine quietAt_val ?_
      go_simp
    go_simp
    refine hK _ ?_
    clear hK K
    refine wpQuiet_step (fun K hK => ?_)
    refine quiet_want (by kernel_rfl) ⟨(.string s), fun W hW => ?_, ?_⟩
    · refine quietAt_val ?_
      have hc := (read_cells HK.out (HH.out.below hW HH.out.inside)).1
      go_simp
    go_simp
    refine hK _ ?_
    clear hK K
    refine wpQuiet_step (fun K hK => ?_)
    refine quiet_want (by kernel_rfl) ⟨(.int .i64 (L : Int)), fun W hW => ?_, ?_⟩
    · refine quietAt_val ?_
      go_simp
    go_simp
    refine hK _ ?_
    clear hK K
    refine wpQuiet_step (fun K hK => ?_)
    refine quiet_want (by kernel_rfl) ⟨(.string (s.extract 4 L)), fun W hW => ?_, ?_⟩
    · refine quietAt_val ?_
      go_simp
    go_simp
    refine hK _ ?_
    clear hK K
    refine wpQuiet_step (fun K hK => ?_)
    refine quiet_want (by kernel_rfl) ⟨(.tuple #[.string T, (errI (E k))]), fun W hW => ?_, ?_⟩
    · refine quietAt_call (f := 36) (args := (#[.pointer (some ⟨g, 0, none⟩), .string (s.extract 0 4), .string (s.extract 4 L)])) (by go_simp) ?_
      refine (rbody_calls g n _ ks _ _ (s.extract 0 4) (s.extract 4 L) HK.out BK.out HN.out (by simp; omega) (by simp; omega) (errI (E 1)) (errI (E 4)) W (HH.out.below hW HH.out.inside) (rangeAt_below T0.out hW) (rangeAt_below T1.out hW) ((HE.out.below hW).var 1 (by decide) (by decide)) ((HE.out.below hW).var 4 (by decide) (by decide))).mono ?_
      rw [HVB.out]
      rintro e W' ⟨rfl, hb⟩
      exact ⟨rfl, hW.trans (hb.mono hW.size)⟩
    go_simp
    refine hK _ ?_
    clear hK K
    refine wpQuiet_step (fun K hK => ?_)
    refine quiet_want (by kernel_rfl) ⟨(.tuple #[.string T, (errI (E k))]), fun W hW => ?_, ?_⟩
    · refine quietAt_val ?_
      go_simp
    go_simp
    refine hK _ ?_
    clear hK K
    refine wpQuiet_step (fun K hK => ?_)
    refine quiet_want (by kernel_rfl) ⟨(.string T), fun W hW => ?_, ?_⟩
    · refine quietAt_val ?_
      go_simp
    go_simp
    refine hK _ ?_
    clear hK K
    refine wpQuiet_step (fun K hK => ?_)
    refine quiet_want (by kernel_rfl) ⟨(errI (E k)), fun W hW => ?_, ?_⟩
    · refine quietAt_val ?_
      go_simp
    go_simp
    refine hK _ ?_
    clear hK K
    refine wpQuiet_step (fun K hK => ?_)
    refine quiet_want (by kernel_rfl) ⟨(.string T), fun W hW => ?_, ?_⟩
    · refine quietAt_val ?_
      go_simp
    go_simp
    refine hK _ ?_
    clear hK K
    refine wpQuiet_step (fun K hK => ?_)
    refine quiet_want (by kernel_rfl) ⟨(errI (E k)), fun W hW => ?_, ?_⟩
    · refine quietAt_val ?_
      go_simp
    go_simp
    refine hK _ ?_
    clear hK K
    refine wpQuiet_nil ?_
    intro W3 hB3
    have HB3 := Lib.hid hB3
    clear hB3 c34 c35 c1
    have HW3 := Lib.hid (HH.out.below HB3.out HH.out.inside)
    have HE3 := Lib.hid (HE.out.below HB3.out)
    unfold errI
    go_wp2_with fail
    refine (rfail_calls g n _ ks s _ 44 _ _ HK.out W3 HW3.out).mono ?_
    rintro e W9 ⟨rfl, h9, g9, p9⟩
    have HF9 := Lib.hid (show Whole W9 g 44 (lineRow n _ ks ++ #[.string ⟨#[]⟩, faultV W3.heap.size]) ∧ w.grownBy W9 (some g) ∧ w.heap.size ≤ W3.heap.size ∧ Whole W9 W3.heap.size 90 #[.string packetS, errI (E k)] from ⟨h9, only_trans (only_of_below HB3.out _) g9, HB3.out.size, p9⟩)
    clear h9 g9 p9
    have HX := Lib.hid (show NextBad w g n _ ks (errI (E k)) (.returned (.tuple #[.string ⟨#[]⟩, .bool false, faultV W3.heap.size])) W9 from ⟨_, rfl, HF9.out⟩)
    go_wp2_with fail
    go_ret3
    exact HX.out
  · have hL3 : (4 : Int) + m + 16 = L := by have := HL.out; simpa [tagN] using this.symm
    clear hL2
    go_wp2_with fail
    refine wp_region_class (fun W => Below w.heap.size w W) (by kernel_rfl) (by kernel_rfl) (below_drawnN HB2.out 1) ?_
    refine wpQuiet_step (fun K hK => ?_)
    refine quiet_want (by kernel_rfl) ⟨(.pointer (some ⟨g, 0, none⟩)), fun W hW => ?_, ?_⟩
    · refine quietAt_val ?_
      go_simp
    go_simp
    refine hK _ ?_
    clear hK K
    refine wpQuiet_step (fun K hK => ?_)
    refine quiet_want (by kernel_rfl) ⟨(.pointer (some ⟨g, 0, none⟩)), fun W hW => ?_, ?_⟩
    · refine quietAt_val ?_
      go_simp
    go_simp
    refine hK _ ?_
    clear hK K
    refine wpQuiet_step (fun K hK => ?_)
    refine quiet_want (by kernel_rfl) ⟨(.pointer (some ⟨g, 0, none⟩)), fun W hW => ?_, ?_⟩
    · refine quietAt_val ?_
      go_simp
    go_simp
    refine hK _ ?_
    clear hK K
    refine wpQuiet_step (fun K hK => ?_)
    refine quiet_want (by kernel_rfl) ⟨(.pointer (some ⟨g, 34, none⟩)), fun W hW => ?_, ?_⟩
    · refine quietAt_val ?_
      go_simp
    go_simp
    refine hK _ ?_
    clear hK K
    refine wpQuiet_step (fun K hK => ?_)
    refine quiet_want (by kernel_rfl) ⟨(.string s), fun W hW => ?_, ?_⟩
    · refine quietAt_val ?_
      have hc := (read_cells HK.out (HH.out.below hW HH.out.inside)).1
      go_simp
    go_simp
    refine hK _ ?_
    clear hK K
    refine wpQuiet_step (fun K hK => ?_)
    refine quiet_want (by kernel_rfl) ⟨(.string (s.extract 0 4)), fun W hW => ?_, ?_⟩
    · refine quietAt_val ?_
      go_simp
    go_simp
    refine hK _ ?_
    clear hK K
    refine wpQuiet_step (fun K hK => ?_)
    refine quiet_want (by kernel_rfl) ⟨(.pointer (some ⟨g, 0, none⟩)), fun W hW => ?_, ?_⟩
    · refine quietAt_val ?_
      go_simp
    go_simp
    refine hK _ ?_
    clear hK K
    refine wpQuiet_step (fun K hK => ?_)
    refine quiet_want (by kernel_rfl) ⟨(.pointer (some ⟨g, 0, none⟩)), fun W hW => ?_, ?_⟩
    · refine quietAt_val ?_
      go_simp
    go_simp
    refine hK _ ?_
    clear hK K
    refine wpQuiet_step (fun K hK => ?_)
    refine quiet_want (by kernel_rfl) ⟨(.pointer (some ⟨g, 34, none⟩)), fun W hW => ?_, ?_⟩
    · refine quietAt_val ?_
      go_simp
    go_simp
    refine hK _ ?_
    clear hK K
    refine wpQuiet_step (fun K hK => ?_)
    refine quiet_want (by kernel_rfl) ⟨(.string s), fun W hW => ?_, ?_⟩
    · refine quietAt_val ?_
      have hc := (read_cells HK.out (HH.out.below hW HH.out.inside)).1
      go_simp
    go_simp
    refine hK _ ?_
    clear hK K
    refine wpQuiet_step (fun K hK => ?_)
    refine quiet_want (by kernel_rfl) ⟨(.int .i64 (L : Int)), fun W hW => ?_, ?_⟩
    · refine quietAt_val ?_
      go_simp
    go_simp
    refine hK _ ?_
    clear hK K
    refine wpQuiet_step (fun K hK => ?_)
    refine quiet_want (by kernel_rfl) ⟨(.string (s.extract 4 L)), fun W hW => ?_, ?_⟩
    · refine quietAt_val ?_
      go_simp
    go_simp
    refine hK _ ?_
    clear hK K
    refine wpQuiet_step (fun K hK => ?_)
    refine quiet_want (by kernel_rfl) ⟨(.tuple #[.string T, (errI (E k))]), fun W hW => ?_, ?_⟩
    · refine quietAt_call (f := 36) (args := (#[.pointer (some ⟨g, 0, none⟩), .string (s.extract 0 4), .string (s.extract 4 L)])) (by go_simp) ?_
      refine (rbody_calls g n _ ks _ _ (s.extract 0 4) (s.extract 4 L) HK.out BK.out HN.out (by simp; omega) (by simp; omega) (errI (E 1)) (errI (E 4)) W (HH.out.below hW HH.out.inside) (rangeAt_below T0.out hW) (rangeAt_below T1.out hW) ((HE.out.below hW).var 1 (by decide) (by decide)) ((HE.out.below hW).var 4 (by decide) (by decide))).mono ?_
      rw [HVB.out]
      rintro e W' ⟨rfl, hb⟩
      exact ⟨rfl, hW.trans (hb.mono hW.size)⟩
    go_simp
    refine hK _ ?_
    clear hK K
    refine wpQuiet_step (fun K hK => ?_)
    refine quiet_want (by kernel_rfl) ⟨(.tuple #[.string T, (errI (E k))]), fun W hW => ?_, ?_⟩
    · refine quietAt_val ?_
      go_simp
    go_simp
    refine hK _ ?_
    clear hK K
    refine wpQuiet_step (fun K hK => ?_)
    refine quiet_want (by kernel_rfl) ⟨(.string T), fun W hW => ?_, ?_⟩
    · refine quietAt_val ?_
      go_simp
    go_simp
    refine hK _ ?_
    clear hK K
    refine wpQuiet_step (fun K hK => ?_)
    refine quiet_want (by kernel_rfl) ⟨(errI (E k)), fun W hW => ?_, ?_⟩
    · refine quietAt_val ?_
      go_simp
    go_simp
    refine hK _ ?_
    clear hK K
    refine wpQuiet_step (fun K hK => ?_)
    refine quiet_want (by kernel_rfl) ⟨(.string T), fun W hW => ?_, ?_⟩
    · refine quietAt_val ?_
      go_simp
    go_simp
    refine hK _ ?_
    clear hK K
    refine wpQuiet_step (fun K hK => ?_)
    refine quiet_want (by kernel_rfl) ⟨(errI (E k)), fun W hW => ?_, ?_⟩
    · refine quietAt_val ?_
      go_simp
    go_simp
    refine hK _ ?_
    clear hK K
    refine wpQuiet_nil ?_
    intro W3 hB3
    have HB3 := Lib.hid hB3
    clear hB3 c34 c35 c1
    have HW3 := Lib.hid (HH.out.below HB3.out HH.out.inside)
    have HE3 := Lib.hid (HE.out.below HB3.out)
    unfold errI
    go_wp2_with fail
    refine (rfail_calls g n _ ks s _ 44 _ _ HK.out W3 HW3.out).mono ?_
    rintro e W9 ⟨rfl, h9, g9, p9⟩
    have HF9 := Lib.hid (show Whole W9 g 44 (lineRow n _ ks ++ #[.string ⟨#[]⟩, faultV W3.heap.size]) ∧ w.grownBy W9 (some g) ∧ w.heap.size ≤ W3.heap.size ∧ Whole W9 W3.heap.size 90 #[.string packetS, errI (E k)] from ⟨h9, only_trans (only_of_below HB3.out _) g9, HB3.out.size, p9⟩)
    clear h9 g9 p9
    have HX := Lib.hid (show NextBad w g n _ ks (errI (E k)) (.returned (.tuple #[.string ⟨#[]⟩, .bool false, faultV W3.heap.size])) W9 from ⟨_, rfl, HF9.out⟩)
    go_wp2_with fail
    go_ret3
    exact HX.out
set_option maxRecDepth 100000 in
set_option maxHeartbeats 4000000 in
theorem next_pad1 (g n : Nat) (b : Bool) (ks : List Int) (s : ByteArray) (E : Nat → Addr) (hk : ks.length = 32) (bk : U8s ks) (hn : n ≤ 1000000000) (h4 : 4 ≤ s.size) (hs : s.size ≤ 1000000) (hb : lenR (bI s) ≤ 33024) (hf : formB b (lenR (bI s)) = false) (hw : ¬ s.size < allR b (lenR (bI s))) (hc : bodyC b ks n (lenR (bI s)) (bI s) = 0) (hp : ix (bodyR b ks n (lenR (bI s)) (bI s)) 0 < 4) (w : World) (hE : Er4 w E) (h : Whole w g 44 (lineRow n b ks ++ #[.string s, .nilIface]))
   (t0 : w.rangeAt 21 0 (beginI.map (Value.int .u32))) (t1 : w.rangeAt 22 0 orderC) :
    Calls Tryz.prog 16 #[.pointer (some ⟨g, 0, none⟩)] w (NextBad w g n b ks (errI (E 2))) := by
  obtain ⟨c34, c35⟩ := read_cells hk h
  have c1 := (line_cells h).2
  have i4 : ¬ (s.size : Int) < 4 := by omega
  obtain ⟨hm, hmb⟩ := lenR_int s
  have hRu := bodyR_u8 b ks n (lenR (bI s)) s
  have hRl := bodyR_len b ks n (lenR (bI s)) s hc hw
  have hV := body_is b ks n (lenR (bI s)) s (errI (E 1)) (errI (E 4))
  rw [hc, show errV 0 (errI (E 1)) (errI (E 4)) = .nilIface from rfl] at hV
  generalize bodyR b ks n (lenR (bI s)) (bI s) = R at hRu hRl hV hp ⊢
  clear hc
  generalize lenR (bI s) = m at hm hmb hb hf hw hV hRl
  have i5 : ¬ (33024 : Int) < m := by omega
  obtain ⟨A, hA⟩ : ∃ A, A = aheadN b := ⟨_, rfl⟩
  have hA4 : A ≤ 4 := by rw [hA]; cases b <;> decide
  obtain ⟨hf, hg⟩ := form_no hf
  have i6 : ¬ (m : Int) + A < A * 2 + 8 := by rw [hA]; omega
  have i7 : ((((m : Int) + A) % 8 != 0) = false) := by rw [bne_eq_false_iff_eq]; rw [hA]; omega
  have i8 : ((((m : Int) + A) % 8 == 0) = true) := by rw [beq_iff_eq]; rw [hA]; omega
  have i9 : ((m : Int) + A) % 8 = 0 := by rw [hA]; omega
  obtain ⟨L, hL⟩ : ∃ L, L = allR b m := ⟨_, rfl⟩
  have i10 : ¬ (s.size : Int) < L := by omega
  have i11 : (L : Int) ≤ s.size := by omega
  have i12 : (4 : Int) ≤ L := by rw [hL]; unfold allR; omega
  have i13 : (4 : Int) ≤ s.size := by omega
  have hm8 : 8 ≤ m := by
    have h1 := hf; have h2 := hg
    rcases aheadN_or b with ⟨e, _⟩ | ⟨e, _⟩ <;> rw [e] at h1 h2 <;> omega
  have hL2 : (L : Int) = 4 + m + (tagN b : Nat) := by rw [hL]; unfold allR; omega
  rw [← hL] at hV
  obtain ⟨T, hT⟩ : ∃ T, T = strOfNums R := ⟨_, rfl⟩
  rw [← hT] at hV
  have hTl : T.size = m := by rw [hT, str_size, hRl]
  have hT0 : (0 : Int) < T.size := by omega
  obtain ⟨q, hq⟩ : ∃ q : Nat, (q : Int) = ix R 0 := ⟨(ix R 0).toNat, by have := U8s_of_mem hRu 0; omega⟩
  have hq5 : q ≤ 255 := by have := U8s_of_mem hRu 0; omega
  have hidx : ∀ h : 0 < T.size, ((T[0]'h).toNat : Int) = (q : Int) := fun h => by rw [← ix_bI T 0 h, hT, bI_str hRu, hq]
  have j1 : (q : Int) < 4 := by omega
  clear hp
  have HVB := Lib.hid hV; have HRU := Lib.hid hRu; have HT := Lib.hid hT; have HTL := Lib.hid hTl; have HQ := Lib.hid hq; have HIX := Lib.hid hidx; have HRL := Lib.hid hRl
  clear hV hRu hT hTl hq hidx hRl
  have HA := Lib.hid hA; have HL := Lib.hid hL2; have HLL := Lib.hid hL; have HM8 := Lib.hid hm8; have HWW := Lib.hid hw
  clear hA hf hg hL hL2 hw hm8
  have HM := Lib.hid hm
  have T0 := Lib.hid t0; have T1 := Lib.hid t1; have HE := Lib.hid hE; have HH := Lib.hid h; have HK := Lib.hid hk; have BK := Lib.hid bk; have HN := Lib.hid hn
  clear t0 t1 hE h hk bk hn hm
  go_enter Tryz.func16, Tryz.ntmps16
  go_wp2_with fail
  refine (wireOf_calls s _).mono ?_
  rintro e w1 ⟨rfl, rfl⟩
  go_wp2_with fail
  refine (inU32_calls w.heap.size s h4 w.heap.size (Nat.le_refl _) _ (Whole.made w _ _)).mono ?_
  rw [HM.out]
  rintro e W1 ⟨rfl, hb1⟩
  have HB1 := Lib.hid (((Below.refl w.heap.size w).alloc (Nat.le_refl _) _).trans hb1)
  clear hb1 c34 c35 c1
  have HW1 := Lib.hid (HH.out.below HB1.out HH.out.inside)
  have HE1 := Lib.hid (HE.out.below HB1.out)
  obtain ⟨c34, c35⟩ := read_cells HK.out HW1.out
  have c1 := (line_cells HW1.out).2
  have HAC := Lib.hid (show ∀ w : World, w.cell? ⟨g, 1, none⟩ = some (.bool b) → Calls Tryz.prog 21 #[.pointer (some ⟨g, 0, none⟩)] w (fun e w' => e = .returned (.int .i64 (A : Int)) ∧ w' = w) from fun w h => by rw [HA.out]; exact ahead_c g b w h)
  go_wp2_with fail
  go_quiet ((go_at_call 21; exact Calls.quiet_of_same (HAC.out _ c1)))
  generalize hW2 : World.drewN W1 _ = W2
  have HB2 := Lib.hid (show Below w.heap.size w W2 by rw [← hW2]; exact below_drawnN HB1.out _)
  clear hW2 c34 c35 c1
  have HW2 := Lib.hid (HH.out.below HB2.out HH.out.inside)
  have HE2 := Lib.hid (HE.out.below HB2.out)
  obtain ⟨c34, c35⟩ := read_cells HK.out HW2.out
  have c1 := (line_cells HW2.out).2
  go_wp2_with fail
  refine (HAC.out _ c1).mono ?_
  rintro e w2 ⟨rfl, hw⟩
  obtain rfl := hw.symm
  have hL2 := HL.out
  cases b
  · have hL3 : (4 : Int) + m = L := by have := HL.out; simpa [tagN] using this.symm
    clear hL2
    go_wp2_with fail
    refine wp_region_class (fun W => Below w.heap.size w W) (by kernel_rfl) (by kernel_rfl) (below_drawnN HB2.out 1) ?_
    refine wpQuiet_step (fun K hK => ?_)
    refine quiet_want (by kernel_rfl) ⟨(.pointer (some ⟨g, 0, none⟩)), fun W hW => ?_, ?_⟩
    · refine quietAt_val ?_
      go_simp
    go_simp
    refine hK _ ?_
    clear hK K
    refine wpQuiet_step (fun K hK => ?_)
    refine quiet_want (by kernel_rfl) ⟨(.pointer (some ⟨g, 0, none⟩)), fun W hW => ?_, ?_⟩
    · refine quietAt_val ?_
      go_simp
    go_simp
    refine hK _ ?_
    clear hK K
    refine wpQuiet_step (fun K hK => ?_)
    refine quiet_want (by kernel_rfl) ⟨(.pointer (some ⟨g, 0, none⟩)), fun W hW => ?_, ?_⟩
    · refine quietAt_val ?_
      go_simp
    go_simp
    refine hK _ ?_
    clear hK K
    refine wpQuiet_step (fun K hK => ?_)
    refine quiet_want (by kernel_rfl) ⟨(.pointer (some ⟨g, 34, none⟩)), fun W hW => ?_, ?_⟩
    · refine quietAt_val ?_
      go_simp
    go_simp
    refine hK _ ?_
    clear hK K
    refine wpQuiet_step (fun K hK => ?_)
    refine quiet_want (by kernel_rfl) ⟨(.string s), fun W hW => ?_, ?_⟩
    · refine quietAt_val ?_
      have hc := (read_cells HK.out (HH.out.below hW HH.out.inside)).1
      go_simp
    go_simp
    refine hK _ ?_
    clear hK K
    refine wpQuiet_step (fun K hK => ?_)
    refine quiet_want (by kernel_rfl) ⟨(.string (s.extract 0 4)), fun W hW => ?_, ?_⟩
    · refine quietAt_val ?_
      go_simp
    go_simp
    refine hK _ ?_
    clear hK K
    refine wpQuiet_step (fun K hK => ?_)
    refine quiet_want (by kernel_rfl) ⟨(.pointer (some ⟨g, 0, none⟩)), fun W hW => ?_, ?_⟩
    · refine quietAt_val ?_
      go_simp
    go_simp
    refine hK _ ?_
    clear hK K
    refine wpQuiet_step (fun K hK => ?_)
    refine quiet_want (by kernel_rfl) ⟨(.pointer (some ⟨g, 0, none⟩)), fun W hW => ?_, ?_⟩
    · refine quietAt_val ?_
      go_simp
    go_simp
    refine hK _ ?_
    clear hK K
    refine wpQuiet_step (fun K hK => ?_)
    refine quiet_want (by kernel_rfl) ⟨(.pointer (some ⟨g, 34, none⟩)), fun W hW => ?_, ?_⟩
    · refine quietAt_val ?_
      go_simp
    go_simp
    refine hK _ ?_
    clear hK K
    refine wpQuiet_step (fun K hK => ?_)
    refine quiet_want (by kernel_rfl) ⟨(.string s), fun W hW => ?_, ?_⟩
    · refine quietAt_val ?_
      have hc := (read_cells HK.out (HH.out.below hW HH.out.inside)).1
      go_simp
    go_simp
    refine hK _ ?_
    clear hK K
    refine wpQuiet_step (fun K hK => ?_)
    refine quiet_want (by kernel_rfl) ⟨(.int .i64 (L : Int)), fun W hW => ?_, ?_⟩
    · refine quietAt_val ?_
      go_simp
    go_simp
    refine hK _ ?_
    clear hK K
    refine wpQuiet_step (fun K hK => ?_)
    refine quiet_want (by kernel_rfl) ⟨(.string (s.extract 4 L)), fun W hW => ?_, ?_⟩
    · refine quietAt_val ?_
      go_simp
    go_simp
    refine hK _ ?_
    clear hK K
    refine wpQuiet_step (fun K hK => ?_)
    refine quiet_want (by kernel_rfl) ⟨(.tuple #[.string T, (.nilIface)]), fun W hW => ?_, ?_⟩
    · refine quietAt_call (f := 36) (args := (#[.pointer (some ⟨g, 0, none⟩), .string (s.extract 0 4), .string (s.extract 4 L)])) (by go_simp) ?_
      refine (rbody_calls g n _ ks _ _ (s.extract 0 4) (s.extract 4 L) HK.out BK.out HN.out (by simp; omega) (by simp; omega) (errI (E 1)) (errI (E 4)) W (HH.out.below hW HH.out.inside) (rangeAt_below T0.out hW) (rangeAt_below T1.out hW) ((HE.out.below hW).var 1 (by decide) (by decide)) ((HE.out.below hW).var 4 (by decide) (by decide))).mono ?_
      rw [HVB.out]
      rintro e W' ⟨rfl, hb⟩
      exact ⟨rfl, hW.trans (hb.mono hW.size)⟩
    go_simp
    refine hK _ ?_
    clear hK K
    refine wpQuiet_step (fun K hK => ?_)
    refine quiet_want (by kernel_rfl) ⟨(.tuple #[.string T, (.nilIface)]), fun W hW => ?_, ?_⟩
    · refine quietAt_val ?_
      go_simp
    go_simp
    refine hK _ ?_
    clear hK K
    refine wpQuiet_step (fun K hK => ?_)
    refine quiet_want (by kernel_rfl) ⟨(.string T), fun W hW => ?_, ?_⟩
    · refine quietAt_val ?_
      go_simp
    go_simp
    refine hK _ ?_
    clear hK K
    refine wpQuiet_step (fun K hK => ?_)
    refine quiet_want (by kernel_rfl) ⟨(.nilIface), fun W hW => ?_, ?_⟩
    · refine quietAt_val ?_
      go_simp
    go_simp
    refine hK _ ?_
    clear hK K
    refine wpQuiet_step (fun K hK => ?_)
    refine quiet_want (by kernel_rfl) ⟨(.string T), fun W hW => ?_, ?_⟩
    · refine quietAt_val ?_
      go_simp
    go_simp
    refine hK _ ?_
    clear hK K
    refine wpQuiet_step (fun K hK => ?_)
    refine quiet_want (by kernel_rfl) ⟨(.nilIface), fun W hW => ?_, ?_⟩
    · refine quietAt_val ?_
      go_simp
    go_simp
    refine hK _ ?_
    clear hK K
    refine wpQuiet_nil ?_
    intro W3 hB3
    have HB3 := Lib.hid hB3
    clear hB3 c34 c35 c1
    have HW3 := Lib.hid (HH.out.below HB3.out HH.out.inside)
    have HE3 := Lib.hid (HE.out.below HB3.out)
    have hidx := HIX.out
    have cE : W3.cell? ⟨3, 0, none⟩ = some (errI (E 2)) := HE3.out.var 2 (by decide) (by decide)
    unfold errI at cE
    go_wp2_with fail
    refine (rfail_calls g n _ ks s _ 44 _ _ HK.out W3 HW3.out).mono ?_
    rintro e W9 ⟨rfl, h9, g9, p9⟩
    have HF9 := Lib.hid (show Whole W9 g 44 (lineRow n _ ks ++ #[.string ⟨#[]⟩, faultV W3.heap.size]) ∧ w.grownBy W9 (some g) ∧ w.heap.size ≤ W3.heap.size ∧ Whole W9 W3.heap.size 90 #[.string packetS, errI (E 2)] from ⟨h9, only_trans (only_of_below HB3.out _) g9, HB3.out.size, p9⟩)
    clear h9 g9 p9
    have HX := Lib.hid (show NextBad w g n _ ks (errI (E 2)) (.returned (.tuple #[.string ⟨#[]⟩, .bool false, faultV W3.heap.size])) W9 from ⟨_, rfl, HF9.out⟩)
    go_wp2_with fail
    go_ret3
    exact HX.out
  · have hL3 : (4 : Int) + m + 16 = L := by have := HL.out; simpa [tagN] using this.symm
    clear hL2
    go_wp2_with fail
    refine wp_region_class (fun W => Below w.heap.size w W) (by kernel_rfl) (by kernel_rfl) (below_drawnN HB2.out 1) ?_
    refine wpQuiet_step (fun K hK => ?_)
    refine quiet_want (by kernel_rfl) ⟨(.pointer (some ⟨g, 0, none⟩)), fun W hW => ?_, ?_⟩
    · refine quietAt_val ?_
      go_simp
    go_simp
    refine hK _ ?_
    clear hK K
    refine wpQuiet_step (fun K hK => ?_)
    refine quiet_want (by kernel_rfl) ⟨(.pointer (some ⟨g, 0, none⟩)), fun W hW => ?_, ?_⟩
    · refine quietAt_val ?_
      go_simp
    go_simp
    refine hK _ ?_
    clear hK K
    refine wpQuiet_step (fun K hK => ?_)
    refine quiet_want (by kernel_rfl) ⟨(.pointer (some ⟨g, 0, none⟩)), fun W hW => ?_, ?_⟩
    · refine quietAt_val ?_
      go_simp
    go_simp
    refine hK _ ?_
    clear hK K
    refine wpQuiet_step (fun K hK => ?_)
    refine quiet_want (by kernel_rfl) ⟨(.pointer (some ⟨g, 34, none⟩)), fun W hW => ?_, ?_⟩
    · refine quietAt_val ?_
      go_simp
    go_simp
    refine hK _ ?_
    clear hK K
    refine wpQuiet_step (fun K hK => ?_)
    refine quiet_want (by kernel_rfl) ⟨(.string s), fun W hW => ?_, ?_⟩
    · refine quietAt_val ?_
      have hc := (read_cells HK.out (HH.out.below hW HH.out.inside)).1
      go_simp
    go_simp
    refine hK _ ?_
    clear hK K
    refine wpQuiet_step (fun K hK => ?_)
    refine quiet_want (by kernel_rfl) ⟨(.string (s.extract 0 4)), fun W hW => ?_, ?_⟩
    · refine quietAt_val ?_
      go_simp
    go_simp
    refine hK _ ?_
    clear hK K
    refine wpQuiet_step (fun K hK => ?_)
    refine quiet_want (by kernel_rfl) ⟨(.pointer (some ⟨g, 0, none⟩)), fun W hW => ?_, ?_⟩
    · refine quietAt_val ?_
      go_simp
    go_simp
    refine hK _ ?_
    clear hK K
    refine wpQuiet_step (fun K hK => ?_)
    refine quiet_want (by kernel_rfl) ⟨(.pointer (some ⟨g, 0, none⟩)), fun W hW => ?_, ?_⟩
    · refine quietAt_val ?_
      go_simp
    go_simp
    refine hK _ ?_
    clear hK K
    refine wpQuiet_step (fun K hK => ?_)
    refine quiet_want (by kernel_rfl) ⟨(.pointer (some ⟨g, 34, none⟩)), fun W hW => ?_, ?_⟩
    · refine quietAt_val ?_
      go_simp
    go_simp
    refine hK _ ?_
    clear hK K
    refine wpQuiet_step (fun K hK => ?_)
    refine quiet_want (by kernel_rfl) ⟨(.string s), fun W hW => ?_, ?_⟩
    · refine quietAt_val ?_
      have hc := (read_cells HK.out (HH.out.below hW HH.out.inside)).1
      go_simp
    go_simp
    refine hK _ ?_
    clear hK K
    refine wpQuiet_step (fun K hK => ?_)
    refine quiet_want (by kernel_rfl) ⟨(.int .i64 (L : Int)), fun W hW => ?_, ?_⟩
    · refine quietAt_val ?_
      go_simp
    go_simp
    refine hK _ ?_
    clear hK K
    refine wpQuiet_step (fun K hK => ?_)
    refine quiet_want (by kernel_rfl) ⟨(.string (s.extract 4 L)), fun W hW => ?_, ?_⟩
    · refine quietAt_val ?_
      go_simp
    go_simp
    refine hK _ ?_
    clear hK K
    refine wpQuiet_step (fun K hK => ?_)
    refine quiet_want (by kernel_rfl) ⟨(.tuple #[.string T, (.nilIface)]), fun W hW => ?_, ?_⟩
    · refine quietAt_call (f := 36) (args := (#[.pointer (some ⟨g, 0, none⟩), .string (s.extract 0 4), .string (s.extract 4 L)])) (by go_simp) ?_
      refine (rbody_calls g n _ ks _ _ (s.extract 0 4) (s.extract 4 L) HK.out BK.out HN.out (by simp; omega) (by simp; omega) (errI (E 1)) (errI (E 4)) W (HH.out.below hW HH.out.inside) (rangeAt_below T0.out hW) (rangeAt_below T1.out hW) ((HE.out.below hW).var 1 (by decide) (by decide)) ((HE.out.below hW).var 4 (by decide) (by decide))).mono ?_
      rw [HVB.out]
      rintro e W' ⟨rfl, hb⟩
      exact ⟨rfl, hW.trans (hb.mono hW.size)⟩
    go_simp
    refine hK _ ?_
    clear hK K
    refine wpQuiet_step (fun K hK => ?_)
    refine quiet_want (by kernel_rfl) ⟨(.tuple #[.string T, (.nilIface)]), fun W hW => ?_, ?_⟩
    · refine quietAt_val ?_
      go_simp
    go_simp
    refine hK _ ?_
    clear hK K
    refine wpQuiet_step (fun K hK => ?_)
    refine quiet_want (by kernel_rfl) ⟨(.string T), fun W hW => ?_, ?_⟩
    · refine quietAt_val ?_
      go_simp
    go_simp
    refine hK _ ?_
    clear hK K
    refine wpQuiet_step (fun K hK => ?_)
    refine quiet_want (by kernel_rfl) ⟨(.nilIface), fun W hW => ?_, ?_⟩
    · refine quietAt_val ?_
      go_simp
    go_simp
    refine hK _ ?_
    clear hK K
    refine wpQuiet_step (fun K hK => ?_)
    refine quiet_want (by kernel_rfl) ⟨(.string T), fun W hW => ?_, ?_⟩
    · refine quietAt_val ?_
      go_simp
    go_simp
    refine hK _ ?_
    clear hK K
    refine wpQuiet_step (fun K hK => ?_)
    refine quiet_want (by kernel_rfl) ⟨(.nilIface), fun W hW => ?_, ?_⟩
    · refine quietAt_val ?_
      go_simp
    go_simp
    refine hK _ ?_
    clear hK K
    refine wpQuiet_nil ?_
    intro W3 hB3
    have HB3 := Lib.hid hB3
    clear hB3 c34 c35 c1
    have HW3 := Lib.hid (HH.out.below HB3.out HH.out.inside)
    have HE3 := Lib.hid (HE.out.below HB3.out)
    have hidx := HIX.out
    have cE : W3.cell? ⟨3, 0, none⟩ = some (errI (E 2)) := HE3.out.var 2 (by decide) (by decide)
    unfold errI at cE
    go_wp2_with fail
    refine (rfail_calls g n _ ks s _ 44 _ _ HK.out W3 HW3.out).mono ?_
    rintro e W9 ⟨rfl, h9, g9, p9⟩
    have HF9 := Lib.hid (show Whole W9 g 44 (lineRow n _ ks ++ #[.string ⟨#[]⟩, faultV W3.heap.size]) ∧ w.grownBy W9 (some g) ∧ w.heap.size ≤ W3.heap.size ∧ Whole W9 W3.heap.size 90 #[.string packetS, errI (E 2)] from ⟨h9, only_trans (only_of_below HB3.out _) g9, HB3.out.size, p9⟩)
    clear h9 g9 p9
    have HX := Lib.hid (show NextBad w g n _ ks (errI (E 2)) (.returned (.tuple #[.string ⟨#[]⟩, .bool false, faultV W3.heap.size])) W9 from ⟨_, rfl, HF9.out⟩)
    go_wp2_with fail
    go_ret3
    exact HX.out
set_option maxRecDepth 100000 in
set_option maxHeartbeats 4000000 in
theorem next_pad2 (g n : Nat) (b : Bool) (ks : List Int) (s : ByteArray) (E : Nat → Addr) (hk : ks.length = 32) (bk : U8s ks) (hn : n ≤ 1000000000) (h4 : 4 ≤ s.size) (hs : s.size ≤ 1000000) (hb : lenR (bI s) ≤ 33024) (hf : formB b (lenR (bI s)) = false) (hw : ¬ s.size < allR b (lenR (bI s))) (hc : bodyC b ks n (lenR (bI s)) (bI s) = 0) (hp : ¬ ix (bodyR b ks n (lenR (bI s)) (bI s)) 0 < 4 ∧ ((bodyR b ks n (lenR (bI s)) (bI s)).length : Int) ≤ ix (bodyR b ks n (lenR (bI s)) (bI s)) 0 + 1) (w : World) (hE : Er4 w E) (h : Whole w g 44 (lineRow n b ks ++ #[.string s, .nilIface]))
   (t0 : w.rangeAt 21 0 (beginI.map (Value.int .u32))) (t1 : w.rangeAt 22 0 orderC) :
    Calls Tryz.prog 16 #[.pointer (some ⟨g, 0, none⟩)] w (NextBad w g n b ks (errI (E 2))) := by
  obtain ⟨c34, c35⟩ := read_cells hk h
  have c1 := (line_cells h).2
  have i4 : ¬ (s.size : Int) < 4 := by omega
  obtain ⟨hm, hmb⟩ := lenR_int s
  have hRu := bodyR_u8 b ks n (lenR (bI s)) s
  have hRl := bodyR_len b ks n (lenR (bI s)) s hc hw
  have hV := body_is b ks n (lenR (bI s)) s (errI (E 1)) (errI (E 4))
  rw [hc, show errV 0 (errI (E 1)) (errI (E 4)) = .nilIface from rfl] at hV
  generalize bodyR b ks n (lenR (bI s)) (bI s) = R at hRu hRl hV hp ⊢
  clear hc
  generalize lenR (bI s) = m at hm hmb hb hf hw hV hRl
  have i5 : ¬ (33024 : Int) < m := by omega
  obtain ⟨A, hA⟩ : ∃ A, A = aheadN b := ⟨_, rfl⟩
  have hA4 : A ≤ 4 := by rw [hA]; cases b <;> decide
  obtain ⟨hf, hg⟩ := form_no hf
  have i6 : ¬ (m : Int) + A < A * 2 + 8 := by rw [hA]; omega
  have i7 : ((((m : Int) + A) % 8 != 0) = false) := by rw [bne_eq_false_iff_eq]; rw [hA]; omega
  have i8 : ((((m : Int) + A) % 8 == 0) = true) := by rw [beq_iff_eq]; rw [hA]; omega
  have i9 : ((m : Int) + A) % 8 = 0 := by rw [hA]; omega
  obtain ⟨L, hL⟩ : ∃ L, L = allR b m := ⟨_, rfl⟩
  have i10 : ¬ (s.size : Int) < L := by omega
  have i11 : (L : Int) ≤ s.size := by omega
  have i12 : (4 : Int) ≤ L := by rw [hL]; unfold allR; omega
  have i13 : (4 : Int) ≤ s.size := by omega
  have hm8 : 8 ≤ m := by
    have h1 := hf; have h2 := hg
    rcases aheadN_or b with ⟨e, _⟩ | ⟨e, _⟩ <;> rw [e] at h1 h2 <;> omega
  have hL2 : (L : Int) = 4 + m + (tagN b : Nat) := by rw [hL]; unfold allR; omega
  rw [← hL] at hV
  obtain ⟨T, hT⟩ : ∃ T, T = strOfNums R := ⟨_, rfl⟩
  rw [← hT] at hV
  have hTl : T.size = m := by rw [hT, str_size, hRl]
  have hT0 : (0 : Int) < T.size := by omega
  obtain ⟨q, hq⟩ : ∃ q : Nat, (q : Int) = ix R 0 := ⟨(ix R 0).toNat, by have := U8s_of_mem hRu 0; omega⟩
  have hq5 : q ≤ 255 := by have := U8s_of_mem hRu 0; omega
  have hidx : ∀ h : 0 < T.size, ((T[0]'h).toNat : Int) = (q : Int) := fun h => by rw [← ix_bI T 0 h, hT, bI_str hRu, hq]
  have j1 : ¬ (q : Int) < 4 := by omega
  have j2 : (T.size : Int) ≤ (q : Int) + 1 := by omega
  clear hp
  have HVB := Lib.hid hV; have HRU := Lib.hid hRu; have HT := Lib.hid hT; have HTL := Lib.hid hTl; have HQ := Lib.hid hq; have HIX := Lib.hid hidx; have HRL := Lib.hid hRl
  clear hV hRu hT hTl hq hidx hRl
  have HA := Lib.hid hA; have HL := Lib.hid hL2; have HLL := Lib.hid hL; have HM8 := Lib.hid hm8; have HWW := Lib.hid hw
  clear hA hf hg hL hL2 hw hm8
  have HM := Lib.hid hm
  have T0 := Lib.hid t0; have T1 := Lib.hid t1; have HE := Lib.hid hE; have HH := Lib.hid h; have HK := Lib.hid hk; have BK := Lib.hid bk; have HN := Lib.hid hn
  clear t0 t1 hE h hk bk hn hm
  go_enter Tryz.func16, Tryz.ntmps16
  go_wp2_with fail
  refine (wireOf_calls s _).mono ?_
  rintro e w1 ⟨rfl, rfl⟩
  go_wp2_with fail
  refine (inU32_calls w.heap.size s h4 w.heap.size (Nat.le_refl _) _ (Whole.made w _ _)).mono ?_
  rw [HM.out]
  rintro e W1 ⟨rfl, hb1⟩
  have HB1 := Lib.hid (((Below.refl w.heap.size w).alloc (Nat.le_refl _) _).trans hb1)
  clear hb1 c34 c35 c1
  have HW1 := Lib.hid (HH.out.below HB1.out HH.out.inside)
  have HE1 := Lib.hid (HE.out.below HB1.out)
  obtain ⟨c34, c35⟩ := read_cells HK.out HW1.out
  have c1 := (line_cells HW1.out).2
  have HAC := Lib.hid (show ∀ w : World, w.cell? ⟨g, 1, none⟩ = some (.bool b) → Calls Tryz.prog 21 #[.pointer (some ⟨g, 0, none⟩)] w (fun e w' => e = .returned (.int .i64 (A : Int)) ∧ w' = w) from fun w h => by rw [HA.out]; exact ahead_c g b w h)
  go_wp2_with fail
  go_quiet ((go_at_call 21; exact Calls.quiet_of_same (HAC.out _ c1)))
  generalize hW2 : World.drewN W1 _ = W2
  have HB2 := Lib.hid (show Below w.heap.size w W2 by rw [← hW2]; exact below_drawnN HB1.out _)
  clear hW2 c34 c35 c1
  have HW2 := Lib.hid (HH.out.below HB2.out HH.out.inside)
  have HE2 := Lib.hid (HE.out.below HB2.out)
  obtain ⟨c34, c35⟩ := read_cells HK.out HW2.out
  have c1 := (line_cells HW2.out).2
  go_wp2_with fail
  refine (HAC.out _ c1).mono ?_
  rintro e w2 ⟨rfl, hw⟩
  obtain rfl := hw.symm
  have hL2 := HL.out
  cases b
  · have hL3 : (4 : Int) + m = L := by have := HL.out; simpa [tagN] using this.symm
    clear hL2
    go_wp2_with fail
    refine wp_region_class (fun W => Below w.heap.size w W) (by kernel_rfl) (by kernel_rfl) (below_drawnN HB2.out 1) ?_
    refine wpQuiet_step (fun K hK => ?_)
    refine quiet_want (by kernel_rfl) ⟨(.pointer (some ⟨g, 0, none⟩)), fun W hW => ?_, ?_⟩
    · refine quietAt_val ?_
      go_simp
    go_simp
    refine hK _ ?_
    clear hK K
    refine wpQuiet_step (fun K hK => ?_)
    refine quiet_want (by kernel_rfl) ⟨(.pointer (some ⟨g, 0, none⟩)), fun W hW => ?_, ?_⟩
    · refine quietAt_val ?_
      go_simp
    go_simp
    refine hK _ ?_
    clear hK K
    refine wpQuiet_step (fun K hK => ?_)
    refine quiet_want (by kernel_rfl) ⟨(.pointer (some ⟨g, 0, none⟩)), fun W hW => ?_, ?_⟩
    · refine quietAt_val ?_
      go_simp
    go_simp
    refine hK _ ?_
    clear hK K
    refine wpQuiet_step (fun K hK => ?_)
    refine quiet_want (by kernel_rfl) ⟨(.pointer (some ⟨g, 34, none⟩)), fun W hW => ?_, ?_⟩
    · refine quietAt_val ?_
      go_simp
    go_simp
    refine hK _ ?_
    clear hK K
    refine wpQuiet_step (fun K hK => ?_)
    refine quiet_want (by kernel_rfl) ⟨(.string s), fun W hW => ?_, ?_⟩
    · refine quietAt_val ?_
      have hc := (read_cells HK.out (HH.out.below hW HH.out.inside)).1
      go_simp
    go_simp
    refine hK _ ?_
    clear hK K
    refine wpQuiet_step (fun K hK => ?_)
    refine quiet_want (by kernel_rfl) ⟨(.string (s.extract 0 4)), fun W hW => ?_, ?_⟩
    · refine quietAt_val ?_
      go_simp
    go_simp
    refine hK _ ?_
    clear hK K
    refine wpQuiet_step (fun K hK => ?_)
    refine quiet_want (by kernel_rfl) ⟨(.pointer (some ⟨g, 0, none⟩)), fun W hW => ?_, ?_⟩
    · refine quietAt_val ?_
      go_simp
    go_simp
    refine hK _ ?_
    clear hK K
    refine wpQuiet_step (fun K hK => ?_)
    refine quiet_want (by kernel_rfl) ⟨(.pointer (some ⟨g, 0, none⟩)), fun W hW => ?_, ?_⟩
    · refine quietAt_val ?_
      go_simp
    go_simp
    refine hK _ ?_
    clear hK K
    refine wpQuiet_step (fun K hK => ?_)
    refine quiet_want (by kernel_rfl) ⟨(.pointer (some ⟨g, 34, none⟩)), fun W hW => ?_, ?_⟩
    · refine quietAt_val ?_
      go_simp
    go_simp
    refine hK _ ?_
    clear hK K
    refine wpQuiet_step (fun K hK => ?_)
    refine quiet_want (by kernel_rfl) ⟨(.string s), fun W hW => ?_, ?_⟩
    · refine quietAt_val ?_
      have hc := (read_cells HK.out (HH.out.below hW HH.out.inside)).1
      go_simp
    go_simp
    refine hK _ ?_
    clear hK K
    refine wpQuiet_step (fun K hK => ?_)
    refine quiet_want (by kernel_rfl) ⟨(.int .i64 (L : Int)), fun W hW => ?_, ?_⟩
    · refine quietAt_val ?_
      go_simp
    go_simp
    refine hK _ ?_
    clear hK K
    refine wpQuiet_step (fun K hK => ?_)
    refine quiet_want (by kernel_rfl) ⟨(.string (s.extract 4 L)), fun W hW => ?_, ?_⟩
    · refine quietAt_val ?_
      go_simp
    go_simp
    refine hK _ ?_
    clear hK K
    refine wpQuiet_step (fun K hK => ?_)
    refine quiet_want (by kernel_rfl) ⟨(.tuple #[.string T, (.nilIface)]), fun W hW => ?_, ?_⟩
    · refine quietAt_call (f := 36) (args := (#[.pointer (some ⟨g, 0, none⟩), .string (s.extract 0 4), .string (s.extract 4 L)])) (by go_simp) ?_
      refine (rbody_calls g n _ ks _ _ (s.extract 0 4) (s.extract 4 L) HK.out BK.out HN.out (by simp; omega) (by simp; omega) (errI (E 1)) (errI (E 4)) W (HH.out.below hW HH.out.inside) (rangeAt_below T0.out hW) (rangeAt_below T1.out hW) ((HE.out.below hW).var 1 (by decide) (by decide)) ((HE.out.below hW).var 4 (by decide) (by decide))).mono ?_
      rw [HVB.out]
      rintro e W' ⟨rfl, hb⟩
      exact ⟨rfl, hW.trans (hb.mono hW.size)⟩
    go_simp
    refine hK _ ?_
    clear hK K
    refine wpQuiet_step (fun K hK => ?_)
    refine quiet_want (by kernel_rfl) ⟨(.tuple #[.string T, (.nilIface)]), fun W hW => ?_, ?_⟩
    · refine quietAt_val ?_
      go_simp
    go_simp
    refine hK _ ?_
    clear hK K
    refine wpQuiet_step (fun K hK => ?_)
    refine quiet_want (by kernel_rfl) ⟨(.string T), fun W hW => ?_, ?_⟩
    · refine quietAt_val ?_
      go_simp
    go_simp
    refine hK _ ?_
    clear hK K
    refine wpQuiet_step (fun K hK => ?_)
    refine quiet_want (by kernel_rfl) ⟨(.nilIface), fun W hW => ?_, ?_⟩
    · refine quietAt_val ?_
      go_simp
    go_simp
    refine hK _ ?_
    clear hK K
    refine wpQuiet_step (fun K hK => ?_)
    refine quiet_want (by kernel_rfl) ⟨(.string T), fun W hW => ?_, ?_⟩
    · refine quietAt_val ?_
      go_simp
    go_simp
    refine hK _ ?_
    clear hK K
    refine wpQuiet_step (fun K hK => ?_)
    refine quiet_want (by kernel_rfl) ⟨(.nilIface), fun W hW => ?_, ?_⟩
    · refine quietAt_val ?_
      go_simp
    go_simp
    refine hK _ ?_
    clear hK K
    refine wpQuiet_nil ?_
    intro W3 hB3
    have HB3 := Lib.hid hB3
    clear hB3 c34 c35 c1
    have HW3 := Lib.hid (HH.out.below HB3.out HH.out.inside)
    have HE3 := Lib.hid (HE.out.below HB3.out)
    have hidx := HIX.out
    have cE : W3.cell? ⟨3, 0, none⟩ = some (errI (E 2)) := HE3.out.var 2 (by decide) (by decide)
    unfold errI at cE
    go_wp2_with fail
    refine (rfail_calls g n _ ks s _ 44 _ _ HK.out W3 HW3.out).mono ?_
    rintro e W9 ⟨rfl, h9, g9, p9⟩
    have HF9 := Lib.hid (show Whole W9 g 44 (lineRow n _ ks ++ #[.string ⟨#[]⟩, faultV W3.heap.size]) ∧ w.grownBy W9 (some g) ∧ w.heap.size ≤ W3.heap.size ∧ Whole W9 W3.heap.size 90 #[.string packetS, errI (E 2)] from ⟨h9, only_trans (only_of_below HB3.out _) g9, HB3.out.size, p9⟩)
    clear h9 g9 p9
    have HX := Lib.hid (show NextBad w g n _ ks (errI (E 2)) (.returned (.tuple #[.string ⟨#[]⟩, .bool false, faultV W3.heap.size])) W9 from ⟨_, rfl, HF9.out⟩)
    go_wp2_with fail
    go_ret3
    exact HX.out
  · have hL3 : (4 : Int) + m + 16 = L := by have := HL.out; simpa [tagN] using this.symm
    clear hL2
    go_wp2_with fail
    refine wp_region_class (fun W => Below w.heap.size w W) (by kernel_rfl) (by kernel_rfl) (below_drawnN HB2.out 1) ?_
    refine wpQuiet_step (fun K hK => ?_)
    refine quiet_want (by kernel_rfl) ⟨(.pointer (some ⟨g, 0, none⟩)), fun W hW => ?_, ?_⟩
    · refine quietAt_val ?_
      go_simp
    go_simp
    refine hK _ ?_
    clear hK K
    refine wpQuiet_step (fun K hK => ?_)
    refine quiet_want (by kernel_rfl) ⟨(.pointer (some ⟨g, 0, none⟩)), fun W hW => ?_, ?_⟩
    · refine quietAt_val ?_
      go_simp
    go_simp
    refine hK _ ?_
    clear hK K
    refine wpQuiet_step (fun K hK => ?_)
    refine quiet_want (by kernel_rfl) ⟨(.pointer (some ⟨g, 0, none⟩)), fun W hW => ?_, ?_⟩
    · refine quietAt_val ?_
      go_simp
    go_simp
    refine hK _ ?_
    clear hK K
    refine wpQuiet_step (fun K hK => ?_)
    refine quiet_want (by kernel_rfl) ⟨(.pointer (some ⟨g, 34, none⟩)), fun W hW => ?_, ?_⟩
    · refine quietAt_val ?_
      go_simp
    go_simp
    refine hK _ ?_
    clear hK K
    refine wpQuiet_step (fun K hK => ?_)
    refine quiet_want (by kernel_rfl) ⟨(.string s), fun W hW => ?_, ?_⟩
    · refine quietAt_val ?_
      have hc := (read_cells HK.out (HH.out.below hW HH.out.inside)).1
      go_simp
    go_simp
    refine hK _ ?_
    clear hK K
    refine wpQuiet_step (fun K hK => ?_)
    refine quiet_want (by kernel_rfl) ⟨(.string (s.extract 0 4)), fun W hW => ?_, ?_⟩
    · refine quietAt_val ?_
      go_simp
    go_simp
    refine hK _ ?_
    clear hK K
    refine wpQuiet_step (fun K hK => ?_)
    refine quiet_want (by kernel_rfl) ⟨(.pointer (some ⟨g, 0, none⟩)), fun W hW => ?_, ?_⟩
    · refine quietAt_val ?_
      go_simp
    go_simp
    refine hK _ ?_
    clear hK K
    refine wpQuiet_step (fun K hK => ?_)
    refine quiet_want (by kernel_rfl) ⟨(.pointer (some ⟨g, 0, none⟩)), fun W hW => ?_, ?_⟩
    · refine quietAt_val ?_
      go_simp
    go_simp
    refine hK _ ?_
    clear hK K
    refine wpQuiet_step (fun K hK => ?_)
    refine quiet_want (by kernel_rfl) ⟨(.pointer (some ⟨g, 34, none⟩)), fun W hW => ?_, ?_⟩
    · refine quietAt_val ?_
      go_simp
    go_simp
    refine hK _ ?_
    clear hK K
    refine wpQuiet_step (fun K hK => ?_)
    refine quiet_want (by kernel_rfl) ⟨(.string s), fun W hW => ?_, ?_⟩
    · refine quietAt_val ?_
      have hc := (read_cells HK.out (HH.out.below hW HH.out.inside)).1
      go_simp
    go_simp
    refine hK _ ?_
    clear hK K
    refine wpQuiet_step (fun K hK => ?_)
    refine quiet_want (by kernel_rfl) ⟨(.int .i64 (L : Int)), fun W hW => ?_, ?_⟩
    · refine quietAt_val ?_
      go_simp
    go_simp
    refine hK _ ?_
    clear hK K
    refine wpQuiet_step (fun K hK => ?_)
    refine quiet_want (by kernel_rfl) ⟨(.string (s.extract 4 L)), fun W hW => ?_, ?_⟩
    · refine quietAt_val ?_
      go_simp
    go_simp
    refine hK _ ?_
    clear hK K
    refine wpQuiet_step (fun K hK => ?_)
    refine quiet_want (by kernel_rfl) ⟨(.tuple #[.string T, (.nilIface)]), fun W hW => ?_, ?_⟩
    · refine quietAt_call (f := 36) (args := (#[.pointer (some ⟨g, 0, none⟩), .string (s.extract 0 4), .string (s.extract 4 L)])) (by go_simp) ?_
      refine (rbody_calls g n _ ks _ _ (s.extract 0 4) (s.extract 4 L) HK.out BK.out HN.out (by simp; omega) (by simp; omega) (errI (E 1)) (errI (E 4)) W (HH.out.below hW HH.out.inside) (rangeAt_below T0.out hW) (rangeAt_below T1.out hW) ((HE.out.below hW).var 1 (by decide) (by decide)) ((HE.out.below hW).var 4 (by decide) (by decide))).mono ?_
      rw [HVB.out]
      rintro e W' ⟨rfl, hb⟩
      exact ⟨rfl, hW.trans (hb.mono hW.size)⟩
    go_simp
    refine hK _ ?_
    clear hK K
    refine wpQuiet_step (fun K hK => ?_)
    refine quiet_want (by kernel_rfl) ⟨(.tuple #[.string T, (.nilIface)]), fun W hW => ?_, ?_⟩
    · refine quietAt_val ?_
      go_simp
    go_simp
    refine hK _ ?_
    clear hK K
    refine wpQuiet_step (fun K hK => ?_)
    refine quiet_want (by kernel_rfl) ⟨(.string T), fun W hW => ?_, ?_⟩
    · refine quietAt_val ?_
      go_simp
    go_simp
    refine hK _ ?_
    clear hK K
    refine wpQuiet_step (fun K hK => ?_)
    refine quiet_want (by kernel_rfl) ⟨(.nilIface), fun W hW => ?_, ?_⟩
    · refine quietAt_val ?_
      go_simp
    go_simp
    refine hK _ ?_
    clear hK K
    refine wpQuiet_step (fun K hK => ?_)
    refine quiet_want (by kernel_rfl) ⟨(.string T), fun W hW => ?_, ?_⟩
    · refine quietAt_val ?_
      go_simp
    go_simp
    refine hK _ ?_
    clear hK K
    refine wpQuiet_step (fun K hK => ?_)
    refine quiet_want (by kernel_rfl) ⟨(.nilIface), fun W hW => ?_, ?_⟩
    · refine quietAt_val ?_
      go_simp
    go_simp
    refine hK _ ?_
    clear hK K
    refine wpQuiet_nil ?_
    intro W3 hB3
    have HB3 := Lib.hid hB3
    clear hB3 c34 c35 c1
    have HW3 := Lib.hid (HH.out.below HB3.out HH.out.inside)
    have HE3 := Lib.hid (HE.out.below HB3.out)
    have hidx := HIX.out
    have cE : W3.cell? ⟨3, 0, none⟩ = some (errI (E 2)) := HE3.out.var 2 (by decide) (by decide)
    unfold errI at cE
    go_wp2_with fail
    refine (rfail_calls g n _ ks s _ 44 _ _ HK.out W3 HW3.out).mono ?_
    rintro e W9 ⟨rfl, h9, g9, p9⟩
    have HF9 := Lib.hid (show Whole W9 g 44 (lineRow n _ ks ++ #[.string ⟨#[]⟩, faultV W3.heap.size]) ∧ w.grownBy W9 (some g) ∧ w.heap.size ≤ W3.heap.size ∧ Whole W9 W3.heap.size 90 #[.string packetS, errI (E 2)] from ⟨h9, only_trans (only_of_below HB3.out _) g9, HB3.out.size, p9⟩)
    clear h9 g9 p9
    have HX := Lib.hid (show NextBad w g n _ ks (errI (E 2)) (.returned (.tuple #[.string ⟨#[]⟩, .bool false, faultV W3.heap.size])) W9 from ⟨_, rfl, HF9.out⟩)
    go_wp2_with fail
    go_ret3
    exact HX.out
set_option maxRecDepth 100000 in
set_option maxHeartbeats 4000000 in
theorem next_got (g n : Nat) (b : Bool) (ks : List Int) (s : ByteArray) (E : Nat → Addr) (hk : ks.length = 32) (bk : U8s ks) (hn : n ≤ 1000000000) (h4 : 4 ≤ s.size) (hs : s.size ≤ 1000000) (hb : lenR (bI s) ≤ 33024) (hf : formB b (lenR (bI s)) = false) (hw : ¬ s.size < allR b (lenR (bI s))) (hc : bodyC b ks n (lenR (bI s)) (bI s) = 0) (hp : ¬ ix (bodyR b ks n (lenR (bI s)) (bI s)) 0 < 4 ∧ ¬ ((bodyR b ks n (lenR (bI s)) (bI s)).length : Int) ≤ ix (bodyR b ks n (lenR (bI s)) (bI s)) 0 + 1) (w : World) (hE : Er4 w E) (h : Whole w g 44 (lineRow n b ks ++ #[.string s, .nilIface]))
   (t0 : w.rangeAt 21 0 (beginI.map (Value.int .u32))) (t1 : w.rangeAt 22 0 orderC) :
    Calls Tryz.prog 16 #[.pointer (some ⟨g, 0, none⟩)] w (NextGot w g n b ks (((bodyR b ks n (lenR (bI s)) (bI s)).take ((bodyR b ks n (lenR (bI s)) (bI s)).length - (ix (bodyR b ks n (lenR (bI s)) (bI s)) 0).toNat)).drop 1) (s.extract (allR b (lenR (bI s))) s.size)) := by
  obtain ⟨c34, c35⟩ := read_cells hk h
  have c1 := (line_cells h).2
  have i4 : ¬ (s.size : Int) < 4 := by omega
  obtain ⟨hm, hmb⟩ := lenR_int s
  have hRu := bodyR_u8 b ks n (lenR (bI s)) s
  have hRl := bodyR_len b ks n (lenR (bI s)) s hc hw
  have hV := body_is b ks n (lenR (bI s)) s (errI (E 1)) (errI (E 4))
  rw [hc, show errV 0 (errI (E 1)) (errI (E 4)) = .nilIface from rfl] at hV
  generalize bodyR b ks n (lenR (bI s)) (bI s) = R at hRu hRl hV hp ⊢
  clear hc
  generalize lenR (bI s) = m at hm hmb hb hf hw hV hRl
  have i5 : ¬ (33024 : Int) < m := by omega
  obtain ⟨A, hA⟩ : ∃ A, A = aheadN b := ⟨_, rfl⟩
  have hA4 : A ≤ 4 := by rw [hA]; cases b <;> decide
  obtain ⟨hf, hg⟩ := form_no hf
  have i6 : ¬ (m : Int) + A < A * 2 + 8 := by rw [hA]; omega
  have i7 : ((((m : Int) + A) % 8 != 0) = false) := by rw [bne_eq_false_iff_eq]; rw [hA]; omega
  have i8 : ((((m : Int) + A) % 8 == 0) = true) := by rw [beq_iff_eq]; rw [hA]; omega
  have i9 : ((m : Int) + A) % 8 = 0 := by rw [hA]; omega
  obtain ⟨L, hL⟩ : ∃ L, L = allR b m := ⟨_, rfl⟩
  have i10 : ¬ (s.size : Int) < L := by omega
  have i11 : (L : Int) ≤ s.size := by omega
  have i12 : (4 : Int) ≤ L := by rw [hL]; unfold allR; omega
  have i13 : (4 : Int) ≤ s.size := by omega
  have hm8 : 8 ≤ m := by
    have h1 := hf; have h2 := hg
    rcases aheadN_or b with ⟨e, _⟩ | ⟨e, _⟩ <;> rw [e] at h1 h2 <;> omega
  have hL2 : (L : Int) = 4 + m + (tagN b : Nat) := by rw [hL]; unfold allR; omega
  rw [← hL] at hV
  obtain ⟨T, hT⟩ : ∃ T, T = strOfNums R := ⟨_, rfl⟩
  rw [← hT] at hV
  have hTl : T.size = m := by rw [hT, str_size, hRl]
  have hT0 : (0 : Int) < T.size := by omega
  obtain ⟨q, hq⟩ : ∃ q : Nat, (q : Int) = ix R 0 := ⟨(ix R 0).toNat, by have := U8s_of_mem hRu 0; omega⟩
  have hq5 : q ≤ 255 := by have := U8s_of_mem hRu 0; omega
  have hidx : ∀ h : 0 < T.size, ((T[0]'h).toNat : Int) = (q : Int) := fun h => by rw [← ix_bI T 0 h, hT, bI_str hRu, hq]
  have j1 : ¬ (q : Int) < 4 := by omega
  have j2 : ¬ (T.size : Int) ≤ (q : Int) + 1 := by omega
  obtain ⟨j, hj⟩ : ∃ j : Nat, j + q = T.size := ⟨T.size - q, by omega⟩
  have j3 : (T.size : Int) - q = j := by omega
  have j4 : (1 : Int) ≤ j := by omega
  have j5 : (j : Int) ≤ T.size := by omega
  have j6 : (j : Int) ≤ 33024 := by omega
  have hout : strOfNums ((R.take (R.length - (ix R 0).toNat)).drop 1) = T.extract 1 j := by
    rw [← hq, hT, out_is R hRu]
    congr 3
    omega
  rw [← hL]
  have HOUT := Lib.hid hout; have HJ := Lib.hid j3
  clear hp hout hj j3
  have HVB := Lib.hid hV; have HRU := Lib.hid hRu; have HT := Lib.hid hT; have HTL := Lib.hid hTl; have HQ := Lib.hid hq; have HIX := Lib.hid hidx; have HRL := Lib.hid hRl
  clear hV hRu hT hTl hq hidx hRl
  have HA := Lib.hid hA; have HL := Lib.hid hL2; have HLL := Lib.hid hL; have HM8 := Lib.hid hm8; have HWW := Lib.hid hw
  clear hA hf hg hL hL2 hw hm8
  have HM := Lib.hid hm
  have T0 := Lib.hid t0; have T1 := Lib.hid t1; have HE := Lib.hid hE; have HH := Lib.hid h; have HK := Lib.hid hk; have BK := Lib.hid bk; have HN := Lib.hid hn
  clear t0 t1 hE h hk bk hn hm
  go_enter Tryz.func16, Tryz.ntmps16
  go_wp2_with fail
  refine (wireOf_calls s _).mono ?_
  rintro e w1 ⟨rfl, rfl⟩
  go_wp2_with fail
  refine (inU32_calls w.heap.size s h4 w.heap.size (Nat.le_refl _) _ (Whole.made w _ _)).mono ?_
  rw [HM.out]
  rintro e W1 ⟨rfl, hb1⟩
  have HB1 := Lib.hid (((Below.refl w.heap.size w).alloc (Nat.le_refl _) _).trans hb1)
  clear hb1 c34 c35 c1
  have HW1 := Lib.hid (HH.out.below HB1.out HH.out.inside)
  have HE1 := Lib.hid (HE.out.below HB1.out)
  obtain ⟨c34, c35⟩ := read_cells HK.out HW1.out
  have c1 := (line_cells HW1.out).2
  have HAC := Lib.hid (show ∀ w : World, w.cell? ⟨g, 1, none⟩ = some (.bool b) → Calls Tryz.prog 21 #[.pointer (some ⟨g, 0, none⟩)] w (fun e w' => e = .returned (.int .i64 (A : Int)) ∧ w' = w) from fun w h => by rw [HA.out]; exact ahead_c g b w h)
  go_wp2_with fail
  go_quiet ((go_at_call 21; exact Calls.quiet_of_same (HAC.out _ c1)))
  generalize hW2 : World.drewN W1 _ = W2
  have HB2 := Lib.hid (show Below w.heap.size w W2 by rw [← hW2]; exact below_drawnN HB1.out _)
  clear hW2 c34 c35 c1
  have HW2 := Lib.hid (HH.out.below HB2.out HH.out.inside)
  have HE2 := Lib.hid (HE.out.below HB2.out)
  obtain ⟨c34, c35⟩ := read_cells HK.out HW2.out
  have c1 := (line_cells HW2.out).2
  go_wp2_with fail
  refine (HAC.out _ c1).mono ?_
  rintro e w2 ⟨rfl, hw⟩
  obtain rfl := hw.symm
  have hL2 := HL.out
  cases b
  · have hL3 : (4 : Int) + m = L := by have := HL.out; simpa [tagN] using this.symm
    clear hL2
    go_wp2_with fail
    refine wp_region_class (fun W => Below w.heap.size w W) (by kernel_rfl) (by kernel_rfl) (below_drawnN HB2.out 1) ?_
    refine wpQuiet_step (fun K hK => ?_)
    refine quiet_want (by kernel_rfl) ⟨(.pointer (some ⟨g, 0, none⟩)), fun W hW => ?_, ?_⟩
    · refine quietAt_val ?_
      go_simp
    go_simp
    refine hK _ ?_
    clear hK K
    refine wpQuiet_step (fun K hK => ?_)
    refine quiet_want (by kernel_rfl) ⟨(.pointer (some ⟨g, 0, none⟩)), fun W hW => ?_, ?_⟩
    · refine quietAt_val ?_
      go_simp
    go_simp
    refine hK _ ?_
    clear hK K
    refine wpQuiet_step (fun K hK => ?_)
    refine quiet_want (by kernel_rfl) ⟨(.pointer (some ⟨g, 0, none⟩)), fun W hW => ?_, ?_⟩
    · refine quietAt_val ?_
      go_simp
    go_simp
    refine hK _ ?_
    clear hK K
    refine wpQuiet_step (fun K hK => ?_)
    refine quiet_want (by kernel_rfl) ⟨(.pointer (some ⟨g, 34, none⟩)), fun W hW => ?_, ?_⟩
    · refine quietAt_val ?_
      go_simp
    go_simp
    refine hK _ ?_
    clear hK K
    refine wpQuiet_step (fun K hK => ?_)
    refine quiet_want (by kernel_rfl) ⟨(.string s), fun W hW => ?_, ?_⟩
    · refine quietAt_val ?_
      have hc := (read_cells HK.out (HH.out.below hW HH.out.inside)).1
      go_simp
    go_simp
    refine hK _ ?_
    clear hK K
    refine wpQuiet_step (fun K hK => ?_)
    refine quiet_want (by kernel_rfl) ⟨(.string (s.extract 0 4)), fun W hW => ?_, ?_⟩
    · refine quietAt_val ?_
      go_simp
    go_simp
    refine hK _ ?_
    clear hK K
    refine wpQuiet_step (fun K hK => ?_)
    refine quiet_want (by kernel_rfl) ⟨(.pointer (some ⟨g, 0, none⟩)), fun W hW => ?_, ?_⟩
    · refine quietAt_val ?_
      go_simp
    go_simp
    refine hK _ ?_
    clear hK K
    refine wpQuiet_step (fun K hK => ?_)
    refine quiet_want (by kernel_rfl) ⟨(.pointer (some ⟨g, 0, none⟩)), fun W hW => ?_, ?_⟩
    · refine quietAt_val ?_
      go_simp
    go_simp
    refine hK _ ?_
    clear hK K
    refine wpQuiet_step (fun K hK => ?_)
    refine quiet_want (by kernel_rfl) ⟨(.pointer (some ⟨g, 34, none⟩)), fun W hW => ?_, ?_⟩
    · refine quietAt_val ?_
      go_simp
    go_simp
    refine hK _ ?_
    clear hK K
    refine wpQuiet_step (fun K hK => ?_)
    refine quiet_want (by kernel_rfl) ⟨(.string s), fun W hW => ?_, ?_⟩
    · refine quietAt_val ?_
      have hc := (read_cells HK.out (HH.out.below hW HH.out.inside)).1
      go_simp
    go_simp
    refine hK _ ?_
    clear hK K
    refine wpQuiet_step (fun K hK => ?_)
    refine quiet_want (by kernel_rfl) ⟨(.int .i64 (L : Int)), fun W hW => ?_, ?_⟩
    · refine quietAt_val ?_
      go_simp
    go_simp
    refine hK _ ?_
    clear hK K
    refine wpQuiet_step (fun K hK => ?_)
    refine quiet_want (by kernel_rfl) ⟨(.string (s.extract 4 L)), fun W hW => ?_, ?_⟩
    · refine quietAt_val ?_
      go_simp
    go_simp
    refine hK _ ?_
    clear hK K
    refine wpQuiet_step (fun K hK => ?_)
    refine quiet_want (by kernel_rfl) ⟨(.tuple #[.string T, (.nilIface)]), fun W hW => ?_, ?_⟩
    · refine quietAt_call (f := 36) (args := (#[.pointer (some ⟨g, 0, none⟩), .string (s.extract 0 4), .string (s.extract 4 L)])) (by go_simp) ?_
      refine (rbody_calls g n _ ks _ _ (s.extract 0 4) (s.extract 4 L) HK.out BK.out HN.out (by simp; omega) (by simp; omega) (errI (E 1)) (errI (E 4)) W (HH.out.below hW HH.out.inside) (rangeAt_below T0.out hW) (rangeAt_below T1.out hW) ((HE.out.below hW).var 1 (by decide) (by decide)) ((HE.out.below hW).var 4 (by decide) (by decide))).mono ?_
      rw [HVB.out]
      rintro e W' ⟨rfl, hb⟩
      exact ⟨rfl, hW.trans (hb.mono hW.size)⟩
    go_simp
    refine hK _ ?_
    clear hK K
    refine wpQuiet_step (fun K hK => ?_)
    refine quiet_want (by kernel_rfl) ⟨(.tuple #[.string T, (.nilIface)]), fun W hW => ?_, ?_⟩
    · refine quietAt_val ?_
      go_simp
    go_simp
    refine hK _ ?_
    clear hK K
    refine wpQuiet_step (fun K hK => ?_)
    refine quiet_want (by kernel_rfl) ⟨(.string T), fun W hW => ?_, ?_⟩
    · refine quietAt_val ?_
      go_simp
    go_simp
    refine hK _ ?_
    clear hK K
    refine wpQuiet_step (fun K hK => ?_)
    refine quiet_want (by kernel_rfl) ⟨(.nilIface), fun W hW => ?_, ?_⟩
    · refine quietAt_val ?_
      go_simp
    go_simp
    refine hK _ ?_
    clear hK K
    refine wpQuiet_step (fun K hK => ?_)
    refine quiet_want (by kernel_rfl) ⟨(.string T), fun W hW => ?_, ?_⟩
    · refine quietAt_val ?_
      go_simp
    go_simp
    refine hK _ ?_
    clear hK K
    refine wpQuiet_step (fun K hK => ?_)
    refine quiet_want (by kernel_rfl) ⟨(.nilIface), fun W hW => ?_, ?_⟩
    · refine quietAt_val ?_
      go_simp
    go_simp
    refine hK _ ?_
    clear hK K
    refine wpQuiet_nil ?_
    intro W3 hB3
    have HB3 := Lib.hid hB3
    clear hB3 c34 c35 c1
    have HW3 := Lib.hid (HH.out.below HB3.out HH.out.inside)
    have HE3 := Lib.hid (HE.out.below HB3.out)
    have hidx := HIX.out
    have j3 := HJ.out
    obtain ⟨c34, c35⟩ := read_cells HK.out HW3.out
    have c0 := (line_cells HW3.out).1
    have f34 := HW3.out.free 34
    have f0 := HW3.out.free 0
    have hn := HN.out
    have hwn : IntKind.u64.wrap ((n : Int) + 1) = (n : Int) + 1 := by
      have e : IntKind.u64.wrap ((n : Int) + 1) = ((n : Int) + 1) % 18446744073709551616 := by simp [IntKind.wrap, IntKind.bits, IntKind.signed]
      rw [e]; omega
    go_wp2_with fail
    generalize hW : World.setCell (World.setCell _ _ _) _ _ = W4
    have HF := Lib.hid (show Whole W4 g 44 (lineRow (n + 1) _ ks ++ #[.string (s.extract L s.size), .nilIface]) ∧ w.grownBy W4 (some g) from by
      subst hW
      exact ⟨line_next (read_set HK.out HW3.out _), only_trans (only_trans (only_of_below HB3.out _) (only_stored _ rfl _)) (only_stored _ rfl _)⟩)
    have HX := Lib.hid (show NextGot w g n _ ks ((R.take (R.length - (ix R 0).toNat)).drop 1) (s.extract L s.size) (.returned (.tuple #[.string (T.extract 1 j), .bool true, .nilIface])) W4 from ⟨by rw [HOUT.out], HF.out⟩)
    clear hW c34 c35 c0 f34 f0
    go_ret3
    exact HX.out
  · have hL3 : (4 : Int) + m + 16 = L := by have := HL.out; simpa [tagN] using this.symm
    clear hL2
    go_wp2_with fail
    refine wp_region_class (fun W => Below w.heap.size w W) (by kernel_rfl) (by kernel_rfl) (below_drawnN HB2.out 1) ?_
    refine wpQuiet_step (fun K hK => ?_)
    refine quiet_want (by kernel_rfl) ⟨(.pointer (some ⟨g, 0, none⟩)), fun W hW => ?_, ?_⟩
    · refine quietAt_val ?_
      go_simp
    go_simp
    refine hK _ ?_
    clear hK K
    refine wpQuiet_step (fun K hK => ?_)
    refine quiet_want (by kernel_rfl) ⟨(.pointer (some ⟨g, 0, none⟩)), fun W hW => ?_, ?_⟩
    · refine quietAt_val ?_
      go_simp
    go_simp
    refine hK _ ?_
    clear hK K
    refine wpQuiet_step (fun K hK => ?_)
    refine quiet_want (by kernel_rfl) ⟨(.pointer (some ⟨g, 0, none⟩)), fun W hW => ?_, ?_⟩
    · refine quietAt_val ?_
      go_simp
    go_simp
    refine hK _ ?_
    clear hK K
    refine wpQuiet_step (fun K hK => ?_)
    refine quiet_want (by kernel_rfl) ⟨(.pointer (some ⟨g, 34, none⟩)), fun W hW => ?_, ?_⟩
    · refine quietAt_val ?_
      go_simp
    go_simp
    refine hK _ ?_
    clear hK K
    refine wpQuiet_step (fun K hK => ?_)
    refine quiet_want (by kernel_rfl) ⟨(.string s), fun W hW => ?_, ?_⟩
    · refine quietAt_val ?_
      have hc := (read_cells HK.out (HH.out.below hW HH.out.inside)).1
      go_simp
    go_simp
    refine hK _ ?_
    clear hK K
    refine wpQuiet_step (fun K hK => ?_)
    refine quiet_want (by kernel_rfl) ⟨(.string (s.extract 0 4)), fun W hW => ?_, ?_⟩
    · refine quietAt_val ?_
      go_simp
    go_simp
    refine hK _ ?_
    clear hK K
    refine wpQuiet_step (fun K hK => ?_)
    refine quiet_want (by kernel_rfl) ⟨(.pointer (some ⟨g, 0, none⟩)), fun W hW => ?_, ?_⟩
    · refine quietAt_val ?_
      go_simp
    go_simp
    refine hK _ ?_
    clear hK K
    refine wpQuiet_step (fun K hK => ?_)
    refine quiet_want (by kernel_rfl) ⟨(.pointer (some ⟨g, 0, none⟩)), fun W hW => ?_, ?_⟩
    · refine quietAt_val ?_
      go_simp
    go_simp
    refine hK _ ?_
    clear hK K
    refine wpQuiet_step (fun K hK => ?_)
    refine quiet_want (by kernel_rfl) ⟨(.pointer (some ⟨g, 34, none⟩)), fun W hW => ?_, ?_⟩
    · refine quietAt_val ?_
      go_simp
    go_simp
    refine hK _ ?_
    clear hK K
    refine wpQuiet_step (fun K hK => ?_)
    refine quiet_want (by kernel_rfl) ⟨(.string s), fun W hW => ?_, ?_⟩
    · refine quietAt_val ?_
      have hc := (read_cells HK.out (HH.out.below hW HH.out.inside)).1
      go_simp
    go_simp
    refine hK _ ?_
    clear hK K
    refine wpQuiet_step (fun K hK => ?_)
    refine quiet_want (by kernel_rfl) ⟨(.int .i64 (L : Int)), fun W hW => ?_, ?_⟩
    · refine quietAt_val ?_
      go_simp
    go_simp
    refine hK _ ?_
    clear hK K
    refine wpQuiet_step (fun K hK => ?_)
    refine quiet_want (by kernel_rfl) ⟨(.string (s.extract 4 L)), fun W hW => ?_, ?_⟩
    · refine quietAt_val ?_
      go_simp
    go_simp
    refine hK _ ?_
    clear hK K
    refine wpQuiet_step (fun K hK => ?_)
    refine quiet_want (by kernel_rfl) ⟨(.tuple #[.string T, (.nilIface)]), fun W hW => ?_, ?_⟩
    · refine quietAt_call (f := 36) (args := (#[.pointer (some ⟨g, 0, none⟩), .string (s.extract 0 4), .string (s.extract 4 L)])) (by go_simp) ?_
      refine (rbody_calls g n _ ks _ _ (s.extract 0 4) (s.extract 4 L) HK.out BK.out HN.out (by simp; omega) (by simp; omega) (errI (E 1)) (errI (E 4)) W (HH.out.below hW HH.out.inside) (rangeAt_below T0.out hW) (rangeAt_below T1.out hW) ((HE.out.below hW).var 1 (by decide) (by decide)) ((HE.out.below hW).var 4 (by decide) (by decide))).mono ?_
      rw [HVB.out]
      rintro e W' ⟨rfl, hb⟩
      exact ⟨rfl, hW.trans (hb.mono hW.size)⟩
    go_simp
    refine hK _ ?_
    clear hK K
    refine wpQuiet_step (fun K hK => ?_)
    refine quiet_want (by kernel_rfl) ⟨(.tuple #[.string T, (.nilIface)]), fun W hW => ?_, ?_⟩
    · refine quietAt_val ?_
      go_simp
    go_simp
    refine hK _ ?_
    clear hK K
    refine wpQuiet_step (fun K hK => ?_)
    refine quiet_want (by kernel_rfl) ⟨(.string T), fun W hW => ?_, ?_⟩
    · refine quietAt_val ?_
      go_simp
    go_simp
    refine hK _ ?_
    clear hK K
    refine wpQuiet_step (fun K hK => ?_)
    refine quiet_want (by kernel_rfl) ⟨(.nilIface), fun W hW => ?_, ?_⟩
    · refine quietAt_val ?_
      go_simp
    go_simp
    refine hK _ ?_
    clear hK K
    refine wpQuiet_step (fun K hK => ?_)
    refine quiet_want (by kernel_rfl) ⟨(.string T), fun W hW => ?_, ?_⟩
    · refine quietAt_val ?_
      go_simp
    go_simp
    refine hK _ ?_
    clear hK K
    refine wpQuiet_step (fun K hK => ?_)
    refine quiet_want (by kernel_rfl) ⟨(.nilIface), fun W hW => ?_, ?_⟩
    · refine quietAt_val ?_
      go_simp
    go_simp
    refine hK _ ?_
    clear hK K
    refine wpQuiet_nil ?_
    intro W3 hB3
    have HB3 := Lib.hid hB3
    clear hB3 c34 c35 c1
    have HW3 := Lib.hid (HH.out.below HB3.out HH.out.inside)
    have HE3 := Lib.hid (HE.out.below HB3.out)
    have hidx := HIX.out
    have j3 := HJ.out
    obtain ⟨c34, c35⟩ := read_cells HK.out HW3.out
    have c0 := (line_cells HW3.out).1
    have f34 := HW3.out.free 34
    have f0 := HW3.out.free 0
    have hn := HN.out
    have hwn : IntKind.u64.wrap ((n : Int) + 1) = (n : Int) + 1 := by
      have e : IntKind.u64.wrap ((n : Int) + 1) = ((n : Int) + 1) % 18446744073709551616 := by simp [IntKind.wrap, IntKind.bits, IntKind.signed]
      rw [e]; omega
    go_wp2_with fail
    generalize hW : World.setCell (World.setCell _ _ _) _ _ = W4
    have HF := Lib.hid (show Whole W4 g 44 (lineRow (n + 1) _ ks ++ #[.string (s.extract L s.size), .nilIface]) ∧ w.grownBy W4 (some g) from by
      subst hW
      exact ⟨line_next (read_set HK.out HW3.out _), only_trans (only_trans (only_of_below HB3.out _) (only_stored _ rfl _)) (only_stored _ rfl _)⟩)
    have HX := Lib.hid (show NextGot w g n _ ks ((R.take (R.length - (ix R 0).toNat)).drop 1) (s.extract L s.size) (.returned (.tuple #[.string (T.extract 1 j), .bool true, .nilIface])) W4 from ⟨by rw [HOUT.out], HF.out⟩)
    clear hW c34 c35 c0 f34 f0
    go_ret3
    exact HX.out
end Go.Proofs.YtfoljmpphbhobaaGreatDoor
