/- The walk of speakeasylaw04.awake: it answers true. -/
import Derived.Test.YtfoljmpphbhobaaDoorPol8
import Derived.Test.YtfoljmpphbhobaaDoorLaw3
namespace Go.Proofs.YtfoljmpphbhobaaDoor
open Go.RowKit Go.Spk
set_option linter.unusedVariables false
def keyP : List Int := [133, 214, 190, 120, 87, 85, 109, 51, 127, 68, 82, 254, 66, 213, 6, 168, 1, 3, 128, 138, 251, 13, 178, 253, 74, 191, 246, 175, 65, 73, 245, 27]
def txtP : ByteArray := ⟨#[67, 114, 121, 112, 116, 111, 103, 114, 97, 112, 104, 105, 99, 32, 70, 111, 114, 117, 109, 32, 82, 101, 115, 101, 97, 114, 99, 104, 32, 71, 114, 111, 117, 112]⟩
def hexP : ByteArray := ⟨#[97, 56, 48, 54, 49, 100, 99, 49, 51, 48, 53, 49, 51, 54, 99, 54, 99, 50, 50, 98, 56, 98, 97, 102, 48, 99, 48, 49, 50, 55, 97, 57]⟩
theorem keyP_u8 : U8s keyP := U8s_of (by decide +kernel)
theorem awake4_val : strOfNums (hexI (bI (strOfNums (polyI keyP (bI txtP)))) 16) = hexP := by decide +kernel
def zz12 : List Int := [0, 0, 0, 0, 0, 0, 0, 0, 0, 0, 0, 0]
theorem zz12_u8 : U8s zz12 := U8s_of (by decide)
/-- What is sealed is opened. -/
theorem open_seal (ks ns ws es : List Int) (hw : U8s ws) : openS ks ns (sealI ks ns ws es) es = ws ∧ openC ks ns (sealI ks ns ws es) es = 0 := by
  have hl : (sealI ks ns ws es).length = ws.length + 16 := by unfold sealI; rw [List.length_append, xorI_length, markI_length]
  have h16 : ¬ (sealI ks ns ws es).length < 16 := by omega
  have hn : (sealI ks ns ws es).length - 16 = (xorI ks 1 ns ws).length := by rw [xorI_length]; omega
  have ht : (sealI ks ns ws es).take ((sealI ks ns ws es).length - 16) = xorI ks 1 ns ws := by
    rw [hn]; unfold sealI; rw [List.take_left]
  have hd : (sealI ks ns ws es).drop ((sealI ks ns ws es).length - 16) = markI ks ns (xorI ks 1 ns ws) es := by
    rw [hn]; unfold sealI; rw [List.drop_left]
  have hf : fitsI ks ns (sealI ks ns ws es) es = true := by
    unfold fitsI
    rw [ht, hd]
    exact beq_self_eq_true _
  constructor
  · unfold openS
    rw [if_neg h16, hf, if_pos rfl, ht, xorI_xorI _ _ _ _ hw]
  · unfold openC
    rw [if_neg h16, hf, if_pos rfl]
theorem sealI_mem (ks ns ws es : List Int) : ∀ b ∈ sealI ks ns ws es, 0 ≤ b ∧ b ≤ 255 := by
  intro b hb
  rcases List.mem_append.1 hb with h | h
  · exact xorI_mem _ _ _ _ b h
  · exact markI_mem _ _ _ _ b h
theorem sealI_length (ks ns ws es : List Int) : (sealI ks ns ws es).length = ws.length + 16 := by unfold sealI; rw [List.length_append, xorI_length, markI_length]
set_option maxRecDepth 100000 in
set_option maxHeartbeats 2000000 in
theorem awake4_calls (vE vM : Value) (w : World)
   (t0 : w.rangeAt 0 0 (beginI.map (Value.int .u32))) (t1 : w.rangeAt 1 0 orderC)
   (cE : w.cell? ⟨2, 0, none⟩ = some vE) (cM : w.cell? ⟨3, 0, none⟩ = some vM) :
    Calls Tryd.prog 19 #[] w fun e w' => e = .returned (.bool true) ∧ Below w.heap.size w w' := by
  have T0 := Lib.hid t0; have T1 := Lib.hid t1; clear t0 t1
  have HGE := Lib.hid (block_lt_of_cell cE); have HGM := Lib.hid (block_lt_of_cell cM); have HCE := Lib.hid cE; have HCM := Lib.hid cM
  clear cE cM
  go_enter Tryd.func19, Tryd.ntmps19
  go_wp2_with (first
    | (refine wpList_store_row rfl 22 (.tmp 1) (.tmp 5) rfl w.heap.size (rowI .u8 keyP) rfl rfl 22 _ (heap_alloc_new _ _) (by kernel_rfl) rfl (rowI_one _ _) ?_
       refine name_ops (fun W => Below w.heap.size w W ∧ Whole W w.heap.size 22 (rowI .u8 keyP)) ⟨((Below.refl _ w).alloc (Nat.le_refl _) _).grown (only_row _ _ _) (by simp) (fun k hk => by injection hk with hk; omega), Whole.row (Whole.new (cs' := _) rfl rfl)⟩ ?_
       intro W0 hF0
       have HF0 := Lib.hid hF0
       have hk0 := hF0.2
       clear hF0)
    | (refine wpList_load_row rfl 22 (.tmp 1) rfl _ rfl 22 (rowI .u8 keyP) (0, 0) _ hk0 Tryd.underlying22 rfl (by kernel_rfl) ?_)
    | fail)
  clear hk0
  refine (psum_calls keyP txtP rfl keyP_u8 (by decide) W0).mono ?_
  rintro e W1 ⟨rfl, hb1⟩
  obtain ⟨P, hP⟩ : ∃ P, P = polyI keyP (bI txtP) := ⟨_, rfl⟩
  have hPl : P.length = 16 := by rw [hP]; exact bytesN_length _ _
  rw [← hP]
  have HS := Lib.hid (show (Tryd.prog.info? 37).map (·.size) = some (rowI .u8 P).size by rw [rowI_size, hPl]; kernel_rfl)
  have HP := Lib.hid hP; have HPL := Lib.hid hPl
  have HB1 := Lib.hid (HF0.out.1.trans (hb1.mono HF0.out.1.size)); have HK1 := Lib.hid (HF0.out.2.below hb1 HF0.out.2.inside)
  clear hP hPl hb1
  go_wp2_with (first
    | (refine wpList_store_row rfl 37 (.tmp 2) (.tmp 7) rfl W1.heap.size (rowI .u8 P) rfl rfl 37 _ (heap_alloc_new _ _) HS.out (by rw [rowI_size, HPL.out]; rfl) (rowI_one _ _) ?_)
    | fail)
  refine name_wp (fun W => Below w.heap.size w W ∧ Whole W w.heap.size 22 (rowI .u8 keyP) ∧ Whole W W1.heap.size 37 (rowI .u8 P))
    ⟨(HB1.out.alloc HB1.out.size _).grown (only_row _ _ _) (by simp; exact Nat.le_succ_of_le HB1.out.size) (fun k hk => by injection hk with hk; subst hk; exact HB1.out.size), (HK1.out.alloc _).only (only_row _ _ _) (ne_some (by have := HK1.out.inside; omega)), Whole.row (Whole.new (cs' := _) rfl rfl)⟩ ?_
  generalize W1.heap.size = g2
  intro W2 hF2
  obtain ⟨T, hT⟩ : ∃ T, T = strOfNums (sealI keyP zz12 (bI (ByteArray.mk #[116, 101, 120, 116])) (bI (ByteArray.mk #[109, 111, 114, 101]))) := ⟨_, rfl⟩
  have hTb : bI T = sealI keyP zz12 (bI (ByteArray.mk #[116, 101, 120, 116])) (bI (ByteArray.mk #[109, 111, 114, 101])) := by rw [hT, bI_str (sealI_mem _ _ _ _)]
  have hTs : T.size ≤ 1000000 := by rw [← bI_length, hTb, sealI_length]; decide
  have hos := open_seal keyP zz12 (bI (ByteArray.mk #[116, 101, 120, 116])) (bI (ByteArray.mk #[109, 111, 114, 101])) (U8s_bI _)
  rw [← hTb] at hos
  have HT := Lib.hid hT; have HTS := Lib.hid hTs; have HOS := Lib.hid hos; have HF2 := Lib.hid hF2
  clear hT hTb hTs hos hF2
  refine wp_region_class (fun W => Below w.heap.size w W ∧ Whole W w.heap.size 22 (rowI .u8 keyP) ∧ Whole W g2 37 (rowI .u8 P)) (by kernel_rfl) (by kernel_rfl) ⟨(HF2.out.1.trans (below_drawnN (Below.refl _ _) 1)), HF2.out.2.1.drew, HF2.out.2.2.drew⟩ ?_
  refine wpQuiet_step (fun K hK => ?_)
  refine quiet_load (by kernel_rfl) 22 (.tmp 1) rfl _ rfl 22 (rowI .u8 keyP) _ (fun W hW => hW.2.1) Tryd.underlying22 rfl (by kernel_rfl) ?_
  go_simp
  refine hK _ ?_
  clear hK K
  refine wpQuiet_step (fun K hK => ?_)
  refine quiet_want (by kernel_rfl) ⟨(.agg #[.int .u8 0, .int .u8 0, .int .u8 0, .int .u8 0, .int .u8 0, .int .u8 0, .int .u8 0, .int .u8 0, .int .u8 0, .int .u8 0, .int .u8 0, .int .u8 0]), fun W hW => ?_, ?_⟩
  · refine quietAt_val ?_
    go_simp
  go_simp
  refine hK _ ?_
  clear hK K
  refine wpQuiet_step (fun K hK => ?_)
  refine quiet_load (by kernel_rfl) 22 (.tmp 1) rfl _ rfl 22 (rowI .u8 keyP) _ (fun W hW => hW.2.1) Tryd.underlying22 rfl (by kernel_rfl) ?_
  go_simp
  refine hK _ ?_
  clear hK K
  refine wpQuiet_step (fun K hK => ?_)
  refine quiet_want (by kernel_rfl) ⟨(.agg #[.int .u8 0, .int .u8 0, .int .u8 0, .int .u8 0, .int .u8 0, .int .u8 0, .int .u8 0, .int .u8 0, .int .u8 0, .int .u8 0, .int .u8 0, .int .u8 0]), fun W hW => ?_, ?_⟩
  · refine quietAt_val ?_
    go_simp
  go_simp
  refine hK _ ?_
  clear hK K
  refine wpQuiet_step (fun K hK => ?_)
  refine quiet_want (by kernel_rfl) ⟨(.string T), fun W hW => ?_, ?_⟩
  · refine quietAt_call (f := 22) (args := (#[.agg (rowI .u8 keyP), .agg #[.int .u8 0, .int .u8 0, .int .u8 0, .int .u8 0, .int .u8 0, .int .u8 0, .int .u8 0, .int .u8 0, .int .u8 0, .int .u8 0, .int .u8 0, .int .u8 0], .string (ByteArray.mk #[116, 101, 120, 116]), .string (ByteArray.mk #[109, 111, 114, 101])])) (by go_simp) ?_
    refine (pseal_calls keyP zz12 (ByteArray.mk #[116, 101, 120, 116]) (ByteArray.mk #[109, 111, 114, 101]) rfl rfl keyP_u8 zz12_u8 (by decide) (by decide) W (rangeAt_below T0.out hW.1) (rangeAt_below T1.out hW.1)).mono ?_
    rw [← HT.out]
    rintro e W' ⟨rfl, hb⟩
    exact ⟨rfl, hW.1.trans (hb.mono hW.1.size), hW.2.1.below hb hW.2.1.inside, hW.2.2.below hb hW.2.2.inside⟩
  go_simp
  refine hK _ ?_
  clear hK K
  refine wpQuiet_step (fun K hK => ?_)
  refine quiet_want (by kernel_rfl) ⟨(.tuple #[.string (ByteArray.mk #[116, 101, 120, 116]), .nilIface]), fun W hW => ?_, ?_⟩
  · refine quietAt_call (f := 23) (args := (#[.agg (rowI .u8 keyP), .agg #[.int .u8 0, .int .u8 0, .int .u8 0, .int .u8 0, .int .u8 0, .int .u8 0, .int .u8 0, .int .u8 0, .int .u8 0, .int .u8 0, .int .u8 0, .int .u8 0], .string T, .string (ByteArray.mk #[109, 111, 114, 101])])) (by go_simp) ?_
    refine (popen_calls keyP zz12 T (ByteArray.mk #[109, 111, 114, 101]) rfl rfl keyP_u8 zz12_u8 HTS.out (by decide) vE vM W (rangeAt_below T0.out hW.1) (rangeAt_below T1.out hW.1) ((hW.1.cell (p := ⟨_, 0, none⟩) HGE.out).trans HCE.out) ((hW.1.cell (p := ⟨_, 0, none⟩) HGM.out).trans HCM.out)).mono ?_
    rw [HOS.out.1, HOS.out.2, str_bI, show errV 0 vE vM = .nilIface from rfl]
    rintro e W' ⟨rfl, hb⟩
    exact ⟨rfl, hW.1.trans (hb.mono hW.1.size), hW.2.1.below hb hW.2.1.inside, hW.2.2.below hb hW.2.2.inside⟩
  go_simp
  refine hK _ ?_
  clear hK K
  refine wpQuiet_step (fun K hK => ?_)
  refine quiet_want (by kernel_rfl) ⟨(.tuple #[.string (ByteArray.mk #[116, 101, 120, 116]), .nilIface]), fun W hW => ?_, ?_⟩
  · refine quietAt_val ?_
    go_simp
  go_simp
  refine hK _ ?_
  clear hK K
  refine wpQuiet_step (fun K hK => ?_)
  refine quiet_want (by kernel_rfl) ⟨(.string (ByteArray.mk #[116, 101, 120, 116])), fun W hW => ?_, ?_⟩
  · refine quietAt_val ?_
    go_simp
  go_simp
  refine hK _ ?_
  clear hK K
  refine wpQuiet_step (fun K hK => ?_)
  refine quiet_want (by kernel_rfl) ⟨(.nilIface), fun W hW => ?_, ?_⟩
  · refine quietAt_val ?_
    go_simp
  go_simp
  refine hK _ ?_
  clear hK K
  refine wpQuiet_step (fun K hK => ?_)
  refine quiet_want (by kernel_rfl) ⟨(.string (ByteArray.mk #[116, 101, 120, 116])), fun W hW => ?_, ?_⟩
  · refine quietAt_val ?_
    go_simp
  go_simp
  refine hK _ ?_
  clear hK K
  refine wpQuiet_step (fun K hK => ?_)
  refine quiet_want (by kernel_rfl) ⟨(.nilIface), fun W hW => ?_, ?_⟩
  · refine quietAt_val ?_
    go_simp
  go_simp
  refine hK _ ?_
  clear hK K
  refine wpQuiet_nil ?_
  intro W3 hF3
  have hcl : ∀ q, q < 16 → W3.cell? ⟨g2, 0 + q, none⟩ = some (.int .u8 (P.getD q 0)) := fun q hq => by
    rw [Nat.zero_add, hF3.2.2.at_, rowI_get .u8 _ q (by rw [HPL.out]; exact hq)]; rfl
  have hrun := run_convert_bytes_arg (P := Tryd.prog) W3 28 5 Tryd.underlying28 Tryd.underlying5 g2 0 16 16 P HPL.out hcl 9 Tryd.underlying9
  have HB3 := Lib.hid hF3.1
  clear hcl hF3
  go_wp2_with fail
  refine (hex_calls (strOfNums P) (by rw [str_size, HPL.out]; decide) W3).mono ?_
  rw [str_size, HPL.out, HP.out, awake4_val]
  rintro e W4 ⟨rfl, hb4⟩
  have HB4 := Lib.hid (HB3.out.trans (hb4.mono HB3.out.size))
  clear hb4 hrun
  unfold hexP
  go_wp2_with fail
  go_ret
  exact ⟨rfl, HB4.out⟩
end Go.Proofs.YtfoljmpphbhobaaDoor
