/- packet's Next: the next payload. (Printed by genpack5.py.) -/
import Derived.Test.YtfoljmpphbhobaaGreatDoorPack4
import Derived.Test.YtfoljmpphbhobaaGreatDoorCode
namespace Go.Proofs.YtfoljmpphbhobaaGreatDoor
open Go.RowKit Go.Spk
set_option linter.unusedVariables false
attribute [local go_sem ↓] Go.wp_at_zero Go.wp_at_succ
/-- The four errors that packet names. -/
structure Er4 (w : World) (E : Nat → Addr) : Prop where
  var : ∀ i, 1 ≤ i → i ≤ 4 → w.cell? ⟨errG i, 0, none⟩ = some (errI (E i))
theorem Er4.below {w w' : World} {E : Nat → Addr} (h : Er4 w E) (hb : Below w.heap.size w w') : Er4 w' E :=
  ⟨fun i h1 h4 => (hb.cell (block_lt_of_cell (h.var i h1 h4))).trans (h.var i h1 h4)⟩
theorem Errs.four {w : World} {E : Nat → Addr} (h : Errs w E) : Er4 w E := ⟨fun i h1 h4 => h.var i (by omega)⟩
theorem ahead_c (g : Nat) (b : Bool) (w : World) (h : w.cell? ⟨g, 1, none⟩ = some (.bool b)) :
    Calls Tryz.prog 21 #[.pointer (some ⟨g, 0, none⟩)] w fun e w' => e = .returned (.int .i64 ((aheadN b : Nat) : Int)) ∧ w' = w := by
  have ha : (if b then (0 : Int) else 4) = ((aheadN b : Nat) : Int) := by cases b <;> rfl
  rw [← ha]
  exact ahead_calls g b w h
/-- An error has come up: it is kept, in a Fault. -/
def NextBad (w : World) (g n : Nat) (b : Bool) (ks : List Int) (ev : Value) (e : Ending) (w' : World) : Prop :=
  ∃ p, e = .returned (.tuple #[.string ⟨#[]⟩, .bool false, faultV p]) ∧ Whole w' g 44 (lineRow n b ks ++ #[.string ⟨#[]⟩, faultV p]) ∧ w.grownBy w' (some g) ∧ w.heap.size ≤ p ∧ Whole w' p 90 #[.string packetS, ev]
theorem form_no {b : Bool} {m : Nat} (h : formB b m = false) : (¬ m + aheadN b < aheadN b * 2 + 8) ∧ (m + aheadN b) % 8 = 0 := by
  unfold formB at h
  rw [Bool.or_eq_false_iff, decide_eq_false_iff_not, decide_eq_false_iff_not] at h
  omega
theorem lenR_int (s : ByteArray) : numT (bI s) 4 = ((lenR (bI s) : Nat) : Int) ∧ lenR (bI s) < 4294967296 := by
  have h := numT_bd (bI s) (U8s_bI s) 4
  have h4 : (256 : Int) ^ 4 = 4294967296 := by decide
  unfold lenR
  omega
set_option maxHeartbeats 1000000 in
theorem next_old (g n : Nat) (b : Bool) (ks : List Int) (s : ByteArray) (t : TypeId) (v : Value) (hk : ks.length = 32) (w : World) (h : Whole w g 44 (lineRow n b ks ++ #[.string s, .iface t v])) :
    Calls Tryz.prog 16 #[.pointer (some ⟨g, 0, none⟩)] w fun e w' => e = .returned (.tuple #[.string ⟨#[]⟩, .bool false, .iface t v]) ∧ Below w.heap.size w w' := by
  obtain ⟨c34, c35⟩ := read_cells hk h
  go_enter Tryz.func16, Tryz.ntmps16
  go_wp2_with fail
  go_quiet (fail)
  go_wp2_with fail
  go_ret3
  exact ⟨rfl, below_drawnN (Below.refl _ _) _⟩
set_option maxHeartbeats 1000000 in
theorem next_short (g n : Nat) (b : Bool) (ks : List Int) (s : ByteArray) (hk : ks.length = 32) (hs : s.size < 4) (w : World) (h : Whole w g 44 (lineRow n b ks ++ #[.string s, .nilIface])) :
    Calls Tryz.prog 16 #[.pointer (some ⟨g, 0, none⟩)] w fun e w' => e = .returned (.tuple #[.string ⟨#[]⟩, .bool false, .nilIface]) ∧ Below w.heap.size w w' := by
  obtain ⟨c34, c35⟩ := read_cells hk h
  have i1 : (s.size : Int) < 4 := by omega
  go_enter Tryz.func16, Tryz.ntmps16
  go_wp2_with fail
  go_quiet (fail)
  go_wp2_with fail
  go_ret3
  exact ⟨rfl, below_drawnN (Below.refl _ _) _⟩
set_option maxRecDepth 100000 in
set_option maxHeartbeats 4000000 in
theorem next_big (g n : Nat) (b : Bool) (ks : List Int) (s : ByteArray) (E : Nat → Addr) (hk : ks.length = 32) (bk : U8s ks) (hn : n ≤ 1000000000) (h4 : 4 ≤ s.size) (hs : s.size ≤ 1000000) (hb : 33024 < lenR (bI s)) (w : World) (hE : Er4 w E) (h : Whole w g 44 (lineRow n b ks ++ #[.string s, .nilIface]))
   (t0 : w.rangeAt 21 0 (beginI.map (Value.int .u32))) (t1 : w.rangeAt 22 0 orderC) :
    Calls Tryz.prog 16 #[.pointer (some ⟨g, 0, none⟩)] w (NextBad w g n b ks (errI (E 3))) := by
  obtain ⟨c34, c35⟩ := read_cells hk h
  have c1 := (line_cells h).2
  have i4 : ¬ (s.size : Int) < 4 := by omega
  obtain ⟨hm, hmb⟩ := lenR_int s
  generalize lenR (bI s) = m at hm hmb hb
  have i5 : (33024 : Int) < m := by omega
  have HM := Lib.hid hm
  have T0 := Lib.hid t0; have T1 := Lib.hid t1; have HE := Lib.hid hE; have HH := Lib.hid h; have HK := Lib.hid hk; have BK := Lib.hid bk; have HN := Lib.hid hn
  clear t0 t1 hE h hk bk hn hm
  go_enter Tryz.func16, Tryz.ntmps16
  go_wp2_with fail
  refine (wireOf_calls s _).mono ?_
  rintro e w1 ⟨rfl, rfl⟩
  go_wp2_with fail
  refine (inU32_calls w.heap.size s h4 w.heap.size (Nat.le_refl _) _ (Whole.made w _ _)).mono ?_
  rw [HM.out]
  rintro e W1 ⟨rfl, hb1⟩
  have HB1 := Lib.hid (((Below.refl w.heap.size w).alloc (Nat.le_refl _) _).trans hb1)
  clear hb1 c34 c35 c1
  have HW1 := Lib.hid (HH.out.below HB1.out HH.out.inside)
  have HE1 := Lib.hid (HE.out.below HB1.out)
  obtain ⟨c34, c35⟩ := read_cells HK.out HW1.out
  have c1 := (line_cells HW1.out).2
  have cE : W1.cell? ⟨1, 0, none⟩ = some (errI (E 3)) := HE1.out.var 3 (by decide) (by decide)
  unfold errI at cE
  go_wp2_with fail
  refine (rfail_calls g n _ ks s _ 44 _ _ HK.out W1 HW1.out).mono ?_
  rintro e W9 ⟨rfl, h9, g9, p9⟩
  have HF9 := Lib.hid (show Whole W9 g 44 (lineRow n _ ks ++ #[.string ⟨#[]⟩, faultV W1.heap.size]) ∧ w.grownBy W9 (some g) ∧ w.heap.size ≤ W1.heap.size ∧ Whole W9 W1.heap.size 90 #[.string packetS, errI (E 3)] from ⟨h9, only_trans (only_of_below HB1.out _) g9, HB1.out.size, p9⟩)
  clear h9 g9 p9
  have HX := Lib.hid (show NextBad w g n _ ks (errI (E 3)) (.returned (.tuple #[.string ⟨#[]⟩, .bool false, faultV W1.heap.size])) W9 from ⟨_, rfl, HF9.out⟩)
  go_wp2_with fail
  go_ret3
  exact HX.out
set_option maxRecDepth 100000 in
set_option maxHeartbeats 4000000 in
theorem next_form1 (g n : Nat) (b : Bool) (ks : List Int) (s : ByteArray) (E : Nat → Addr) (hk : ks.length = 32) (bk : U8s ks) (hn : n ≤ 1000000000) (h4 : 4 ≤ s.size) (hs : s.size ≤ 1000000) (hb : lenR (bI s) ≤ 33024) (hf : lenR (bI s) + aheadN b < aheadN b * 2 + 8) (w : World) (hE : Er4 w E) (h : Whole w g 44 (lineRow n b ks ++ #[.string s, .nilIface]))
   (t0 : w.rangeAt 21 0 (beginI.map (Value.int .u32))) (t1 : w.rangeAt 22 0 orderC) :
    Calls Tryz.prog 16 #[.pointer (some ⟨g, 0, none⟩)] w (NextBad w g n b ks (errI (E 2))) := by
  obtain ⟨c34, c35⟩ := read_cells hk h
  have c1 := (line_cells h).2
  have i4 : ¬ (s.size : Int) < 4 := by omega
  obtain ⟨hm, hmb⟩ := lenR_int s
  generalize lenR (bI s) = m at hm hmb hb hf
  have i5 : ¬ (33024 : Int) < m := by omega
  obtain ⟨A, hA⟩ : ∃ A, A = aheadN b := ⟨_, rfl⟩
  have hA4 : A ≤ 4 := by rw [hA]; cases b <;> decide
  have i6 : (m : Int) + A < A * 2 + 8 := by rw [hA]; omega
  have HA := Lib.hid hA
  clear hA hf
  have HM := Lib.hid hm
  have T0 := Lib.hid t0; have T1 := Lib.hid t1; have HE := Lib.hid hE; have HH := Lib.hid h; have HK := Lib.hid hk; have BK := Lib.hid bk; have HN := Lib.hid hn
  clear t0 t1 hE h hk bk hn hm
  go_enter Tryz.func16, Tryz.ntmps16
  go_wp2_with fail
  refine (wireOf_calls s _).mono ?_
  rintro e w1 ⟨rfl, rfl⟩
  go_wp2_with fail
  refine (inU32_calls w.heap.size s h4 w.heap.size (Nat.le_refl _) _ (Whole.made w _ _)).mono ?_
  rw [HM.out]
  rintro e W1 ⟨rfl, hb1⟩
  have HB1 := Lib.hid (((Below.refl w.heap.size w).alloc (Nat.le_refl _) _).trans hb1)
  clear hb1 c34 c35 c1
  have HW1 := Lib.hid (HH.out.below HB1.out HH.out.inside)
  have HE1 := Lib.hid (HE.out.below HB1.out)
  obtain ⟨c34, c35⟩ := read_cells HK.out HW1.out
  have c1 := (line_cells HW1.out).2
  have HAC := Lib.hid (show ∀ w : World, w.cell? ⟨g, 1, none⟩ = some (.bool b) → Calls Tryz.prog 21 #[.pointer (some ⟨g, 0, none⟩)] w (fun e w' => e = .returned (.int .i64 (A : Int)) ∧ w' = w) from fun w h => by rw [HA.out]; exact ahead_c g b w h)
  go_wp2_with fail
  go_quiet ((go_at_call 21; exact Calls.quiet_of_same (HAC.out _ c1)))
  generalize hW2 : World.drewN W1 _ = W2
  have HB2 := Lib.hid (show Below w.heap.size w W2 by rw [← hW2]; exact below_drawnN HB1.out _)
  clear hW2 c34 c35 c1
  have HW2 := Lib.hid (HH.out.below HB2.out HH.out.inside)
  have HE2 := Lib.hid (HE.out.below HB2.out)
  obtain ⟨c34, c35⟩ := read_cells HK.out HW2.out
  have c1 := (line_cells HW2.out).2
  have cE : W2.cell? ⟨3, 0, none⟩ = some (errI (E 2)) := HE2.out.var 2 (by decide) (by decide)
  unfold errI at cE
  go_wp2_with fail
  refine (rfail_calls g n _ ks s _ 44 _ _ HK.out W2 HW2.out).mono ?_
  rintro e W9 ⟨rfl, h9, g9, p9⟩
  have HF9 := Lib.hid (show Whole W9 g 44 (lineRow n _ ks ++ #[.string ⟨#[]⟩, faultV W2.heap.size]) ∧ w.grownBy W9 (some g) ∧ w.heap.size ≤ W2.heap.size ∧ Whole W9 W2.heap.size 90 #[.string packetS, errI (E 2)] from ⟨h9, only_trans (only_of_below HB2.out _) g9, HB2.out.size, p9⟩)
  clear h9 g9 p9
  have HX := Lib.hid (show NextBad w g n _ ks (errI (E 2)) (.returned (.tuple #[.string ⟨#[]⟩, .bool false, faultV W2.heap.size])) W9 from ⟨_, rfl, HF9.out⟩)
  go_wp2_with fail
  go_ret3
  exact HX.out
set_option maxRecDepth 100000 in
set_option maxHeartbeats 4000000 in
theorem next_form2 (g n : Nat) (b : Bool) (ks : List Int) (s : ByteArray) (E : Nat → Addr) (hk : ks.length = 32) (bk : U8s ks) (hn : n ≤ 1000000000) (h4 : 4 ≤ s.size) (hs : s.size ≤ 1000000) (hb : lenR (bI s) ≤ 33024) (hf : ¬ lenR (bI s) + aheadN b < aheadN b * 2 + 8) (hg : (lenR (bI s) + aheadN b) % 8 ≠ 0) (w : World) (hE : Er4 w E) (h : Whole w g 44 (lineRow n b ks ++ #[.string s, .nilIface]))
   (t0 : w.rangeAt 21 0 (beginI.map (Value.int .u32))) (t1 : w.rangeAt 22 0 orderC) :
    Calls Tryz.prog 16 #[.pointer (some ⟨g, 0, none⟩)] w (NextBad w g n b ks (errI (E 2))) := by
  obtain ⟨c34, c35⟩ := read_cells hk h
  have c1 := (line_cells h).2
  have i4 : ¬ (s.size : Int) < 4 := by omega
  obtain ⟨hm, hmb⟩ := lenR_int s
  generalize lenR (bI s) = m at hm hmb hb hf hg
  have i5 : ¬ (33024 : Int) < m := by omega
  obtain ⟨A, hA⟩ : ∃ A, A = aheadN b := ⟨_, rfl⟩
  have hA4 : A ≤ 4 := by rw [hA]; cases b <;> decide
  have i6 : ¬ (m : Int) + A < A * 2 + 8 := by rw [hA]; omega
  have i7 : ((((m : Int) + A) % 8 != 0) = true) := by rw [bne_iff_ne]; rw [hA]; omega
  have i8 : ((((m : Int) + A) % 8 == 0) = false) := by rw [beq_eq_false_iff_ne]; rw [hA]; omega
  have i9 : ¬ ((m : Int) + A) % 8 = 0 := by rw [hA]; omega
  have HA := Lib.hid hA
  clear hA hf hg
  have HM := Lib.hid hm
  have T0 := Lib.hid t0; have T1 := Lib.hid t1; have HE := Lib.hid hE; have HH := Lib.hid h; have HK := Lib.hid hk; have BK := Lib.hid bk; have HN := Lib.hid hn
  clear t0 t1 hE h hk bk hn hm
  go_enter Tryz.func16, Tryz.ntmps16
  go_wp2_with fail
  refine (wireOf_calls s _).mono ?_
  rintro e w1 ⟨rfl, rfl⟩
  go_wp2_with fail
  refine (inU32_calls w.heap.size s h4 w.heap.size (Nat.le_refl _) _ (Whole.made w _ _)).mono ?_
  rw [HM.out]
  rintro e W1 ⟨rfl, hb1⟩
  have HB1 := Lib.hid (((Below.refl w.heap.size w).alloc (Nat.le_refl _) _).trans hb1)
  clear hb1 c34 c35 c1
  have HW1 := Lib.hid (HH.out.below HB1.out HH.out.inside)
  have HE1 := Lib.hid (HE.out.below HB1.out)
  obtain ⟨c34, c35⟩ := read_cells HK.out HW1.out
  have c1 := (line_cells HW1.out).2
  have HAC := Lib.hid (show ∀ w : World, w.cell? ⟨g, 1, none⟩ = some (.bool b) → Calls Tryz.prog 21 #[.pointer (some ⟨g, 0, none⟩)] w (fun e w' => e = .returned (.int .i64 (A : Int)) ∧ w' = w) from fun w h => by rw [HA.out]; exact ahead_c g b w h)
  go_wp2_with fail
  go_quiet ((go_at_call 21; exact Calls.quiet_of_same (HAC.out _ c1)))
  generalize hW2 : World.drewN W1 _ = W2
  have HB2 := Lib.hid (show Below w.heap.size w W2 by rw [← hW2]; exact below_drawnN HB1.out _)
  clear hW2 c34 c35 c1
  have HW2 := Lib.hid (HH.out.below HB2.out HH.out.inside)
  have HE2 := Lib.hid (HE.out.below HB2.out)
  obtain ⟨c34, c35⟩ := read_cells HK.out HW2.out
  have c1 := (line_cells HW2.out).2
  go_wp2_with fail
  refine (HAC.out _ c1).mono ?_
  rintro e w2 ⟨rfl, hw⟩
  obtain rfl := hw.symm
  have cE : W2.cell? ⟨3, 0, none⟩ = some (errI (E 2)) := HE2.out.var 2 (by decide) (by decide)
  unfold errI at cE
  go_wp2_with fail
  refine (rfail_calls g n _ ks s _ 44 _ _ HK.out W2 HW2.out).mono ?_
  rintro e W9 ⟨rfl, h9, g9, p9⟩
  have HF9 := Lib.hid (show Whole W9 g 44 (lineRow n _ ks ++ #[.string ⟨#[]⟩, faultV W2.heap.size]) ∧ w.grownBy W9 (some g) ∧ w.heap.size ≤ W2.heap.size ∧ Whole W9 W2.heap.size 90 #[.string packetS, errI (E 2)] from ⟨h9, only_trans (only_of_below HB2.out _) g9, HB2.out.size, p9⟩)
  clear h9 g9 p9
  have HX := Lib.hid (show NextBad w g n _ ks (errI (E 2)) (.returned (.tuple #[.string ⟨#[]⟩, .bool false, faultV W2.heap.size])) W9 from ⟨_, rfl, HF9.out⟩)
  go_wp2_with fail
  go_ret3
  exact HX.out
set_option maxRecDepth 100000 in
set_option maxHeartbeats 4000000 in
theorem next_wait (g n : Nat) (b : Bool) (ks : List Int) (s : ByteArray) (E : Nat → Addr) (hk : ks.length = 32) (bk : U8s ks) (hn : n ≤ 1000000000) (h4 : 4 ≤ s.size) (hs : s.size ≤ 1000000) (hb : lenR (bI s) ≤ 33024) (hf : formB b (lenR (bI s)) = false) (hw : s.size < allR b (lenR (bI s))) (w : World) (hE : Er4 w E) (h : Whole w g 44 (lineRow n b ks ++ #[.string s, .nilIface]))
   (t0 : w.rangeAt 21 0 (beginI.map (Value.int .u32))) (t1 : w.rangeAt 22 0 orderC) :
    Calls Tryz.prog 16 #[.pointer (some ⟨g, 0, none⟩)] w (fun e w' => e = .returned (.tuple #[.string ⟨#[]⟩, .bool false, .nilIface]) ∧ Below w.heap.size w w') := by
  obtain ⟨c34, c35⟩ := read_cells hk h
  have c1 := (line_cells h).2
  have i4 : ¬ (s.size : Int) < 4 := by omega
  obtain ⟨hm, hmb⟩ := lenR_int s
  generalize lenR (bI s) = m at hm hmb hb hf hw
  have i5 : ¬ (33024 : Int) < m := by omega
  obtain ⟨A, hA⟩ : ∃ A, A = aheadN b := ⟨_, rfl⟩
  have hA4 : A ≤ 4 := by rw [hA]; cases b <;> decide
  obtain ⟨hf, hg⟩ := form_no hf
  have i6 : ¬ (m : Int) + A < A * 2 + 8 := by rw [hA]; omega
  have i7 : ((((m : Int) + A) % 8 != 0) = false) := by rw [bne_eq_false_iff_eq]; rw [hA]; omega
  have i8 : ((((m : Int) + A) % 8 == 0) = true) := by rw [beq_iff_eq]; rw [hA]; omega
  have i9 : ((m : Int) + A) % 8 = 0 := by rw [hA]; omega
  obtain ⟨L, hL⟩ : ∃ L, L = allR b m := ⟨_, rfl⟩
  have i10 : (s.size : Int) < L := by omega
  have hL2 : (L : Int) = 4 + m + (tagN b : Nat) := by rw [hL]; unfold allR; omega
  have HA := Lib.hid hA; have HL := Lib.hid hL2
  clear hA hf hg hL hL2 hw
  have HM := Lib.hid hm
  have T0 := Lib.hid t0; have T1 := Lib.hid t1; have HE := Lib.hid hE; have HH := Lib.hid h; have HK := Lib.hid hk; have BK := Lib.hid bk; have HN := Lib.hid hn
  clear t0 t1 hE h hk bk hn hm
  go_enter Tryz.func16, Tryz.ntmps16
  go_wp2_with fail
  refine (wireOf_calls s _).mono ?_
  rintro e w1 ⟨rfl, rfl⟩
  go_wp2_with fail
  refine (inU32_calls w.heap.size s h4 w.heap.size (Nat.le_refl _) _ (Whole.made w _ _)).mono ?_
  rw [HM.out]
  rintro e W1 ⟨rfl, hb1⟩
  have HB1 := Lib.hid (((Below.refl w.heap.size w).alloc (Nat.le_refl _) _).trans hb1)
  clear hb1 c34 c35 c1
  have HW1 := Lib.hid (HH.out.below HB1.out HH.out.inside)
  have HE1 := Lib.hid (HE.out.below HB1.out)
  obtain ⟨c34, c35⟩ := read_cells HK.out HW1.out
  have c1 := (line_cells HW1.out).2
  have HAC := Lib.hid (show ∀ w : World, w.cell? ⟨g, 1, none⟩ = some (.bool b) → Calls Tryz.prog 21 #[.pointer (some ⟨g, 0, none⟩)] w (fun e w' => e = .returned (.int .i64 (A : Int)) ∧ w' = w) from fun w h => by rw [HA.out]; exact ahead_c g b w h)
  go_wp2_with fail
  go_quiet ((go_at_call 21; exact Calls.quiet_of_same (HAC.out _ c1)))
  generalize hW2 : World.drewN W1 _ = W2
  have HB2 := Lib.hid (show Below w.heap.size w W2 by rw [← hW2]; exact below_drawnN HB1.out _)
  clear hW2 c34 c35 c1
  have HW2 := Lib.hid (HH.out.below HB2.out HH.out.inside)
  have HE2 := Lib.hid (HE.out.below HB2.out)
  obtain ⟨c34, c35⟩ := read_cells HK.out HW2.out
  have c1 := (line_cells HW2.out).2
  go_wp2_with fail
  refine (HAC.out _ c1).mono ?_
  rintro e w2 ⟨rfl, hw⟩
  obtain rfl := hw.symm
  cases b
  · have hL2 : (4 : Int) + m = L := by have := HL.out; simpa [tagN] using this.symm
    go_wp2_with fail
    go_ret3
    exact ⟨rfl, HB2.out⟩
  · have hL2 : (4 : Int) + m + 16 = L := by have := HL.out; simpa [tagN] using this.symm
    go_wp2_with fail
    go_ret3
    exact ⟨rfl, HB2.out⟩
end Go.Proofs.YtfoljmpphbhobaaGreatDoor
