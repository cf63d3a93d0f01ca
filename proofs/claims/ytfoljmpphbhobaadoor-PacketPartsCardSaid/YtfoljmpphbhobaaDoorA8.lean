/- The walk of speakeasylaw04.awake: it answers true. · The walk of PolySums: it answers true. · The walk of PolySeals: it answers true. · The walk of PolyEdges: it answers true. -/
import Derived.Test.YtfoljmpphbhobaaDoorA7
import Derived.Test.YtfoljmpphbhobaaDoorA4
namespace Go.Proofs.YtfoljmpphbhobaaDoor
open Go.RowKit Go.Spk
set_option linter.unusedVariables false
def keyP : List Int := [133, 214, 190, 120, 87, 85, 109, 51, 127, 68, 82, 254, 66, 213, 6, 168, 1, 3, 128, 138, 251, 13, 178, 253, 74, 191, 246, 175, 65, 73, 245, 27]
def txtP : ByteArray := ⟨#[67, 114, 121, 112, 116, 111, 103, 114, 97, 112, 104, 105, 99, 32, 70, 111, 114, 117, 109, 32, 82, 101, 115, 101, 97, 114, 99, 104, 32, 71, 114, 111, 117, 112]⟩
def hexP : ByteArray := ⟨#[97, 56, 48, 54, 49, 100, 99, 49, 51, 48, 53, 49, 51, 54, 99, 54, 99, 50, 50, 98, 56, 98, 97, 102, 48, 99, 48, 49, 50, 55, 97, 57]⟩
theorem keyP_u8 : U8s keyP := U8s_of (by decide +kernel)
theorem awake4_val : strOfNums (hexI (bI (strOfNums (polyI keyP (bI txtP)))) 16) = hexP := by decide +kernel
def zz12 : List Int := [0, 0, 0, 0, 0, 0, 0, 0, 0, 0, 0, 0]
theorem zz12_u8 : U8s zz12 := U8s_of (by decide)
/-- What is sealed is opened. -/
theorem open_seal (ks ns ws es : List Int) (hw : U8s ws) : openS ks ns (sealI ks ns ws es) es = ws ∧ openC ks ns (sealI ks ns ws es) es = 0 := by
  have hl : (sealI ks ns ws es).length = ws.length + 16 := by unfold sealI; rw [List.length_append, xorI_length, markI_length]
  have h16 : ¬ (sealI ks ns ws es).length < 16 := by omega
  have hn : (sealI ks ns ws es).length - 16 = (xorI ks 1 ns ws).length := by rw [xorI_length]; omega
  have ht : (sealI ks ns ws es).take ((sealI ks ns ws es).length - 16) = xorI ks 1 ns ws := by
    rw [hn]; unfold sealI; rw [List.take_left]
  have hd : (sealI ks ns ws es).drop ((sealI ks ns ws es).length - 16) = markI ks ns (xorI ks 1 ns ws) es := by
    rw [hn]; unfold sealI; rw [List.drop_left]
  have hf : fitsI ks ns (sealI ks ns ws es) es = true := by
    unfold fitsI
    rw [ht, hd]
    exact beq_self_eq_true _
  constructor
  · unfold openS
    rw [if_neg h16, hf, if_pos rfl, ht, xorI_xorI _ _ _ _ hw]
  · unfold openC
    rw [if_neg h16, hf, if_pos rfl]
theorem sealI_mem (ks ns ws es : List Int) : ∀ b ∈ sealI ks ns ws es, 0 ≤ b ∧ b ≤ 255 := by
  intro b hb
  rcases List.mem_append.1 hb with h | h
  · exact xorI_mem _ _ _ _ b h
  · exact markI_mem _ _ _ _ b h
theorem sealI_length (ks ns ws es : List Int) : (sealI ks ns ws es).length = ws.length + 16 := by unfold sealI; rw [List.length_append, xorI_length, markI_length]
set_option maxRecDepth 100000 in
set_option maxHeartbeats 2000000 in
theorem awake4_calls (vE vM : Value) (w : World)
   (t0 : w.rangeAt 0 0 (beginI.map (Value.int .u32))) (t1 : w.rangeAt 1 0 orderC)
   (cE : w.cell? ⟨2, 0, none⟩ = some vE) (cM : w.cell? ⟨3, 0, none⟩ = some vM) :
    Calls Tryd.prog 19 #[] w fun e w' => e = .returned (.bool true) ∧ Below w.heap.size w w' := by
  have T0 := Lib.hid t0; have T1 := Lib.hid t1; clear t0 t1
  have HGE := Lib.hid (block_lt_of_cell cE); have HGM := Lib.hid (block_lt_of_cell cM); have HCE := Lib.hid cE; have HCM := Lib.hid cM
  clear cE cM
  go_enter Tryd.func19, Tryd.ntmps19
  go_wp2_with (first
    | (refine wpList_store_row rfl 22 (.tmp 1) (.tmp 5) rfl w.heap.size (rowI .u8 keyP) rfl rfl 22 _ (heap_alloc_new _ _) (by kernel_rfl) rfl (rowI_one _ _) ?_
       refine name_ops (fun W => Below w.heap.size w W ∧ Whole W w.heap.size 22 (rowI .u8 keyP)) ⟨((Below.refl _ w).alloc (Nat.le_refl _) _).grown (only_row _ _ _) (by simp) (fun k hk => by injection hk with hk; omega), Whole.row (Whole.new (cs' := _) rfl rfl)⟩ ?_
       intro W0 hF0
       have HF0 := Lib.hid hF0
       have hk0 := hF0.2
       clear hF0)
    | (refine wpList_load_row rfl 22 (.tmp 1) rfl _ rfl 22 (rowI .u8 keyP) (0, 0) _ hk0 Tryd.underlying22 rfl (by kernel_rfl) ?_)
    | fail)
  clear hk0
  refine (psum_calls keyP txtP rfl keyP_u8 (by decide) W0).mono ?_
  rintro e W1 ⟨rfl, hb1⟩
  obtain ⟨P, hP⟩ : ∃ P, P = polyI keyP (bI txtP) := ⟨_, rfl⟩
  have hPl : P.length = 16 := by rw [hP]; exact bytesN_length _ _
  rw [← hP]
  have HS := Lib.hid (show (Tryd.prog.info? 37).map (·.size) = some (rowI .u8 P).size by rw [rowI_size, hPl]; kernel_rfl)
  have HP := Lib.hid hP; have HPL := Lib.hid hPl
  have HB1 := Lib.hid (HF0.out.1.trans (hb1.mono HF0.out.1.size)); have HK1 := Lib.hid (HF0.out.2.below hb1 HF0.out.2.inside)
  clear hP hPl hb1
  go_wp2_with (first
    | (refine wpList_store_row rfl 37 (.tmp 2) (.tmp 7) rfl W1.heap.size (rowI .u8 P) rfl rfl 37 _ (heap_alloc_new _ _) HS.out (by rw [rowI_size, HPL.out]; rfl) (rowI_one _ _) ?_)
    | fail)
  refine name_wp (fun W => Below w.heap.size w W ∧ Whole W w.heap.size 22 (rowI .u8 keyP) ∧ Whole W W1.heap.size 37 (rowI .u8 P))
    ⟨(HB1.out.alloc HB1.out.size _).grown (only_row _ _ _) (by simp; exact Nat.le_succ_of_le HB1.out.size) (fun k hk => by injection hk with hk; subst hk; exact HB1.out.size), (HK1.out.alloc _).only (only_row _ _ _) (ne_some (by have := HK1.out.inside; omega)), Whole.row (Whole.new (cs' := _) rfl rfl)⟩ ?_
  generalize W1.heap.size = g2
  intro W2 hF2
  obtain ⟨T, hT⟩ : ∃ T, T = strOfNums (sealI keyP zz12 (bI (ByteArray.mk #[116, 101, 120, 116])) (bI (ByteArray.mk #[109, 111, 114, 101]))) := ⟨_, rfl⟩
  have hTb : bI T = sealI keyP zz12 (bI (ByteArray.mk #[116, 101, 120, 116])) (bI (ByteArray.mk #[109, 111, 114, 101])) := by rw [hT, bI_str (sealI_mem _ _ _ _)]
  have hTs : T.size ≤ 1000000 := by rw [← bI_length, hTb, sealI_length]; decide
  have hos := open_seal keyP zz12 (bI (ByteArray.mk #[116, 101, 120, 116])) (bI (ByteArray.mk #[109, 111, 114, 101])) (U8s_bI _)
  rw [← hTb] at hos
  have HT := Lib.hid hT; have HTS := Lib.hid hTs; have HOS := Lib.hid hos; have HF2 := Lib.hid hF2
  clear hT hTb hTs hos hF2
  refine wp_region_class (fun W => Below w.heap.size w W ∧ Whole W w.heap.size 22 (rowI .u8 keyP) ∧ Whole W g2 37 (rowI .u8 P)) (by kernel_rfl) (by kernel_rfl) ⟨(HF2.out.1.trans (below_drawnN (Below.refl _ _) 1)), HF2.out.2.1.drew, HF2.out.2.2.drew⟩ ?_
  refine wpQuiet_step (fun K hK => ?_)
  refine quiet_load (by kernel_rfl) 22 (.tmp 1) rfl _ rfl 22 (rowI .u8 keyP) _ (fun W hW => hW.2.1) Tryd.underlying22 rfl (by kernel_rfl) ?_
  go_simp
  refine hK _ ?_
  clear hK K
  refine wpQuiet_step (fun K hK => ?_)
  refine quiet_want (by kernel_rfl) ⟨(.agg #[.int .u8 0, .int .u8 0, .int .u8 0, .int .u8 0, .int .u8 0, .int .u8 0, .int .u8 0, .int .u8 0, .int .u8 0, .int .u8 0, .int .u8 0, .int .u8 0]), fun W hW => ?_, ?_⟩
  · refine quietAt_val ?_
    go_simp
  go_simp
  refine hK _ ?_
  clear hK K
  refine wpQuiet_step (fun K hK => ?_)
  refine quiet_load (by kernel_rfl) 22 (.tmp 1) rfl _ rfl 22 (rowI .u8 keyP) _ (fun W hW => hW.2.1) Tryd.underlying22 rfl (by kernel_rfl) ?_
  go_simp
  refine hK _ ?_
  clear hK K
  refine wpQuiet_step (fun K hK => ?_)
  refine quiet_want (by kernel_rfl) ⟨(.agg #[.int .u8 0, .int .u8 0, .int .u8 0, .int .u8 0, .int .u8 0, .int .u8 0, .int .u8 0, .int .u8 0, .int .u8 0, .int .u8 0, .int .u8 0, .int .u8 0]), fun W hW => ?_, ?_⟩
  · refine quietAt_val ?_
    go_simp
  go_simp
  refine hK _ ?_
  clear hK K
  refine wpQuiet_step (fun K hK => ?_)
  refine quiet_want (by kernel_rfl) ⟨(.string T), fun W hW => ?_, ?_⟩
  · refine quietAt_call (f := 22) (args := (#[.agg (rowI .u8 keyP), .agg #[.int .u8 0, .int .u8 0, .int .u8 0, .int .u8 0, .int .u8 0, .int .u8 0, .int .u8 0, .int .u8 0, .int .u8 0, .int .u8 0, .int .u8 0, .int .u8 0], .string (ByteArray.mk #[116, 101, 120, 116]), .string (ByteArray.mk #[109, 111, 114, 101])])) (by go_simp) ?_
    refine (pseal_calls keyP zz12 (ByteArray.mk #[116, 101, 120, 116]) (ByteArray.mk #[109, 111, 114, 101]) rfl rfl keyP_u8 zz12_u8 (by decide) (by decide) W (rangeAt_below T0.out hW.1) (rangeAt_below T1.out hW.1)).mono ?_
    rw [← HT.out]
    rintro e W' ⟨rfl, hb⟩
    exact ⟨rfl, hW.1.trans (hb.mono hW.1.size), hW.2.1.below hb hW.2.1.inside, hW.2.2.below hb hW.2.2.inside⟩
  go_simp
  refine hK _ ?_
  clear hK K
  refine wpQuiet_step (fun K hK => ?_)
  refine quiet_want (by kernel_rfl) ⟨(.tuple #[.string (ByteArray.mk #[116, 101, 120, 116]), .nilIface]), fun W hW => ?_, ?_⟩
  · refine quietAt_call (f := 23) (args := (#[.agg (rowI .u8 keyP), .agg #[.int .u8 0, .int .u8 0, .int .u8 0, .int .u8 0, .int .u8 0, .int .u8 0, .int .u8 0, .int .u8 0, .int .u8 0, .int .u8 0, .int .u8 0, .int .u8 0], .string T, .string (ByteArray.mk #[109, 111, 114, 101])])) (by go_simp) ?_
    refine (popen_calls keyP zz12 T (ByteArray.mk #[109, 111, 114, 101]) rfl rfl keyP_u8 zz12_u8 HTS.out (by decide) vE vM W (rangeAt_below T0.out hW.1) (rangeAt_below T1.out hW.1) ((hW.1.cell (p := ⟨_, 0, none⟩) HGE.out).trans HCE.out) ((hW.1.cell (p := ⟨_, 0, none⟩) HGM.out).trans HCM.out)).mono ?_
    rw [HOS.out.1, HOS.out.2, str_bI, show errV 0 vE vM = .nilIface from rfl]
    rintro e W' ⟨rfl, hb⟩
    exact ⟨rfl, hW.1.trans (hb.mono hW.1.size), hW.2.1.below hb hW.2.1.inside, hW.2.2.below hb hW.2.2.inside⟩
  go_simp
  refine hK _ ?_
  clear hK K
  refine wpQuiet_step (fun K hK => ?_)
  refine quiet_want (by kernel_rfl) ⟨(.tuple #[.string (ByteArray.mk #[116, 101, 120, 116]), .nilIface]), fun W hW => ?_, ?_⟩
  · refine quietAt_val ?_
    go_simp
  go_simp
  refine hK _ ?_
  clear hK K
  refine wpQuiet_step (fun K hK => ?_)
  refine quiet_want (by kernel_rfl) ⟨(.string (ByteArray.mk #[116, 101, 120, 116])), fun W hW => ?_, ?_⟩
  · refine quietAt_val ?_
    go_simp
  go_simp
  refine hK _ ?_
  clear hK K
  refine wpQuiet_step (fun K hK => ?_)
  refine quiet_want (by kernel_rfl) ⟨(.nilIface), fun W hW => ?_, ?_⟩
  · refine quietAt_val ?_
    go_simp
  go_simp
  refine hK _ ?_
  clear hK K
  refine wpQuiet_step (fun K hK => ?_)
  refine quiet_want (by kernel_rfl) ⟨(.string (ByteArray.mk #[116, 101, 120, 116])), fun W hW => ?_, ?_⟩
  · refine quietAt_val ?_
    go_simp
  go_simp
  refine hK _ ?_
  clear hK K
  refine wpQuiet_step (fun K hK => ?_)
  refine quiet_want (by kernel_rfl) ⟨(.nilIface), fun W hW => ?_, ?_⟩
  · refine quietAt_val ?_
    go_simp
  go_simp
  refine hK _ ?_
  clear hK K
  refine wpQuiet_nil ?_
  intro W3 hF3
  have hcl : ∀ q, q < 16 → W3.cell? ⟨g2, 0 + q, none⟩ = some (.int .u8 (P.getD q 0)) := fun q hq => by
    rw [Nat.zero_add, hF3.2.2.at_, rowI_get .u8 _ q (by rw [HPL.out]; exact hq)]; rfl
  have hrun := run_convert_bytes_arg (P := Tryd.prog) W3 28 5 Tryd.underlying28 Tryd.underlying5 g2 0 16 16 P HPL.out hcl 9 Tryd.underlying9
  have HB3 := Lib.hid hF3.1
  clear hcl hF3
  go_wp2_with fail
  refine (hex_calls (strOfNums P) (by rw [str_size, HPL.out]; decide) W3).mono ?_
  rw [str_size, HPL.out, HP.out, awake4_val]
  rintro e W4 ⟨rfl, hb4⟩
  have HB4 := Lib.hid (HB3.out.trans (hb4.mono HB3.out.size))
  clear hb4 hrun
  unfold hexP
  go_wp2_with fail
  go_ret
  exact ⟨rfl, HB4.out⟩
end Go.Proofs.YtfoljmpphbhobaaDoor
namespace Go.Proofs.YtfoljmpphbhobaaDoor
open Go.RowKit Go.Spk
set_option linter.unusedVariables false
theorem key_of (ks : List Int) (hk : ks.length = 32) (bk : ∀ b ∈ ks, 0 ≤ b ∧ b ≤ 255) : bI (strOfNums ks) = ks ∧ (strOfNums ks).size = 32 := ⟨bI_str bk, by rw [str_size, hk]⟩
set_option maxRecDepth 100000 in
set_option maxHeartbeats 2000000 in
theorem sums_calls (ks : List Int) (s0 : ByteArray) (hk : ks.length = 32) (bk : ∀ b ∈ ks, 0 ≤ b ∧ b ≤ 255) (vE vM : Value) (w : World)
   (t0 : w.rangeAt 0 0 (beginI.map (Value.int .u32))) (t1 : w.rangeAt 1 0 orderC)
   (cE : w.cell? ⟨2, 0, none⟩ = some vE) (cM : w.cell? ⟨3, 0, none⟩ = some vM) :
    Calls Tryd.prog 6 #[.agg (rowI .u8 ks), .string s0] w fun e w' => e = .returned (.bool true) ∧ Below w.heap.size w w' := by
  have T0 := Lib.hid t0; have T1 := Lib.hid t1; clear t0 t1
  have HGE := Lib.hid (block_lt_of_cell cE); have HGM := Lib.hid (block_lt_of_cell cM); have HCE := Lib.hid cE; have HCM := Lib.hid cM
  clear cE cM
  have H1 := Lib.hid (show (Tryd.prog.info? 22).map (·.size) = some (rowI .u8 ks).size by rw [rowI_size, hk]; kernel_rfl)
  have HK := Lib.hid hk; have BK := Lib.hid bk
  clear hk bk
  go_enter Tryd.func6, Tryd.ntmps6
  go_wp2_with fail
  generalize hW : w.alloc _ = W0
  have hF0 : Below w.heap.size w W0 ∧ Whole W0 w.heap.size 22 (rowI .u8 ks) := by
    subst hW; exact ⟨by go_grown, Whole.new rfl rfl⟩
  have HB0 := Lib.hid hF0.1; have HK0 := Lib.hid hF0.2
  clear hW hF0
  refine (awake4_calls vE vM W0 (rangeAt_below T0.out HB0.out) (rangeAt_below T1.out HB0.out) ((HB0.out.cell (p := ⟨_, 0, none⟩) HGE.out).trans HCE.out) ((HB0.out.cell (p := ⟨_, 0, none⟩) HGM.out).trans HCM.out)).mono ?_
  rintro e W1 ⟨rfl, hb1⟩
  have HB1 := Lib.hid (HB0.out.trans (hb1.mono HB0.out.size)); have HK1 := Lib.hid (HK0.out.below hb1 HK0.out.inside)
  clear hb1
  go_wp2_with fail
  refine (cut_calls s0 120 (by decide) _).mono ?_
  rintro e W1' ⟨⟨s, rfl, hcut, hsz⟩, rfl⟩
  have HSZ := Lib.hid hsz
  clear hcut hsz
  have hk1 := HK1.out
  go_wp2_with (first
    | (refine wpList_load_row rfl 22 (.tmp 2) rfl _ rfl 22 (rowI .u8 ks) (0, 0) _ hk1 Tryd.underlying22 rfl H1.out ?_)
    | fail)
  clear hk1
  refine (psum_calls ks s HK.out (U8s_of_mem BK.out) (by have := HSZ.out; omega) W1).mono ?_
  rintro e W2 ⟨rfl, hb2⟩
  obtain ⟨P, hP⟩ : ∃ P, P = polyI ks (bI s) := ⟨_, rfl⟩
  have hPl : P.length = 16 := by rw [hP]; exact bytesN_length _ _
  rw [← hP]
  have HS := Lib.hid (show (Tryd.prog.info? 37).map (·.size) = some (rowI .u8 P).size by rw [rowI_size, hPl]; kernel_rfl)
  have HP := Lib.hid hP; have HPL := Lib.hid hPl
  have HB2 := Lib.hid (HB1.out.trans (hb2.mono HB1.out.size)); have HK2 := Lib.hid (HK1.out.below hb2 HK1.out.inside)
  clear hP hPl hb2
  go_wp2_with (first
    | (refine wpList_store_row rfl 37 (.tmp 5) (.tmp 12) rfl W2.heap.size (rowI .u8 P) rfl rfl 37 _ (heap_alloc_new _ _) HS.out (by rw [rowI_size, HPL.out]; rfl) (rowI_one _ _) ?_)
    | fail)
  refine name_wp (fun W => Below w.heap.size w W ∧ Whole W w.heap.size 22 (rowI .u8 ks) ∧ Whole W W2.heap.size 37 (rowI .u8 P))
    ⟨(HB2.out.alloc HB2.out.size _).grown (only_row _ _ _) (by simp; exact Nat.le_succ_of_le HB2.out.size) (fun k hk => by injection hk with hk; subst hk; exact HB2.out.size), (HK2.out.alloc _).only (only_row _ _ _) (ne_some (by have := HK2.out.inside; omega)), Whole.row (Whole.new (cs' := _) rfl rfl)⟩ ?_
  generalize W2.heap.size = g2
  intro W3 hF3
  refine wp_region_class (fun W => Below w.heap.size w W ∧ Whole W w.heap.size 22 (rowI .u8 ks) ∧ Whole W g2 37 (rowI .u8 P)) (by kernel_rfl) (by kernel_rfl) ⟨(hF3.1.trans (below_drawnN (Below.refl _ _) 1)), hF3.2.1.drew, hF3.2.2.drew⟩ ?_
  clear hF3 W3
  refine wpQuiet_step (fun K hK => ?_)
  refine quiet_want (by kernel_rfl) ⟨(.slice (some ⟨g2, 0, none⟩) 16 16), fun W hW => ?_, ?_⟩
  · refine quietAt_val ?_
    go_simp
  go_simp
  refine hK _ ?_
  clear hK K
  refine wpQuiet_step (fun K hK => ?_)
  refine quiet_want (by kernel_rfl) ⟨(.string (strOfNums P)), fun W hW => ?_, ?_⟩
  · refine quietAt_val ?_
    have hrun := run_convert_bytes_arg (P := Tryd.prog) W 28 5 Tryd.underlying28 Tryd.underlying5 g2 0 16 16 P HPL.out (whole_sliced W _ _ P 16 hW.2.2 HPL.out) 9 Tryd.underlying9
    go_simp
  go_simp
  refine hK _ ?_
  clear hK K
  refine wpQuiet_step (fun K hK => ?_)
  refine quiet_want (by kernel_rfl) ⟨(.slice (some ⟨w.heap.size, 0, none⟩) 32 32), fun W hW => ?_, ?_⟩
  · refine quietAt_val ?_
    go_simp
  go_simp
  refine hK _ ?_
  clear hK K
  refine wpQuiet_step (fun K hK => ?_)
  refine quiet_want (by kernel_rfl) ⟨(.string (strOfNums ks)), fun W hW => ?_, ?_⟩
  · refine quietAt_val ?_
    have hrun := run_convert_bytes_arg (P := Tryd.prog) W 28 5 Tryd.underlying28 Tryd.underlying5 w.heap.size 0 32 32 ks HK.out (whole_sliced W _ _ ks 32 hW.2.1 HK.out) 9 Tryd.underlying9
    go_simp
  go_simp
  refine hK _ ?_
  clear hK K
  refine wpQuiet_step (fun K hK => ?_)
  refine quiet_want (by kernel_rfl) ⟨(.string s), fun W hW => ?_, ?_⟩
  · refine quietAt_val ?_
    go_simp
  go_simp
  refine hK _ ?_
  clear hK K
  refine wpQuiet_step (fun K hK => ?_)
  refine quiet_want (by kernel_rfl) ⟨(.string (strOfNums P)), fun W hW => ?_, ?_⟩
  · refine quietAt_call (f := 21) (args := (#[.string (strOfNums ks), .string s])) (by go_simp) ?_
    refine (rsum_calls (strOfNums ks) s (key_of ks HK.out BK.out).2 (by have := HSZ.out; omega) W).mono ?_
    rw [(key_of ks HK.out BK.out).1, ← HP.out]
    rintro e W' ⟨rfl, hb⟩
    exact ⟨rfl, hW.1.trans (hb.mono hW.1.size), hW.2.1.below hb hW.2.1.inside, hW.2.2.below hb hW.2.2.inside⟩
  go_simp
  refine hK _ ?_
  clear hK K
  refine wpQuiet_step (fun K hK => ?_)
  refine quiet_want (by kernel_rfl) ⟨(.bool true), fun W hW => ?_, ?_⟩
  · refine quietAt_val ?_
    go_simp
  go_simp
  refine hK _ ?_
  clear hK K
  refine wpQuiet_step (fun K hK => ?_)
  refine quiet_want (by kernel_rfl) ⟨(.bool true), fun W hW => ?_, ?_⟩
  · refine quietAt_val ?_
    go_simp
  go_simp
  refine hK _ ?_
  clear hK K
  refine wpQuiet_nil ?_
  intro W4 hF4
  have HF4 := Lib.hid hF4.1
  clear hF4
  go_wp2_with fail
  go_ret
  exact ⟨rfl, HF4.out⟩
end Go.Proofs.YtfoljmpphbhobaaDoor
namespace Go.Proofs.YtfoljmpphbhobaaDoor
open Go.RowKit Go.Spk
set_option linter.unusedVariables false
/-- The nonce that the law makes: the length, and the key's last byte. -/
def nonceS (n : Nat) (k : Int) : List Int := [(n : Int) % 256, 0, 0, 0, 0, 0, 0, 0, 0, 0, 0, k]
theorem nonceS_mem (n : Nat) (k : Int) (hk : 0 ≤ k ∧ k ≤ 255) : ∀ b ∈ nonceS n k, 0 ≤ b ∧ b ≤ 255 := by
  intro b hb
  simp only [nonceS, List.mem_cons, List.not_mem_nil, or_false] at hb
  rcases hb with rfl | rfl | rfl | rfl | rfl | rfl | rfl | rfl | rfl | rfl | rfl | rfl <;> omega
set_option maxRecDepth 100000 in
set_option maxHeartbeats 2000000 in
theorem seals_calls (ks : List Int) (s0 x0 : ByteArray) (hk : ks.length = 32) (bk : ∀ b ∈ ks, 0 ≤ b ∧ b ≤ 255) (vE vM : Value) (w : World)
   (t0 : w.rangeAt 0 0 (beginI.map (Value.int .u32))) (t1 : w.rangeAt 1 0 orderC)
   (cE : w.cell? ⟨2, 0, none⟩ = some vE) (cM : w.cell? ⟨3, 0, none⟩ = some vM) :
    Calls Tryd.prog 8 #[.agg (rowI .u8 ks), .string s0, .string x0] w fun e w' => e = .returned (.bool true) ∧ Below w.heap.size w w' := by
  have T0 := Lib.hid t0; have T1 := Lib.hid t1; clear t0 t1
  have HGE := Lib.hid (block_lt_of_cell cE); have HGM := Lib.hid (block_lt_of_cell cM); have HCE := Lib.hid cE; have HCM := Lib.hid cM
  clear cE cM
  have H1 := Lib.hid (show (Tryd.prog.info? 22).map (·.size) = some (rowI .u8 ks).size by rw [rowI_size, hk]; kernel_rfl)
  have HK := Lib.hid hk; have BK := Lib.hid bk
  clear hk bk
  go_enter Tryd.func8, Tryd.ntmps8
  go_wp2_with fail
  generalize hW : w.alloc _ = W0
  have hF0 : Below w.heap.size w W0 ∧ Whole W0 w.heap.size 22 (rowI .u8 ks) := by
    subst hW; exact ⟨by go_grown, Whole.new rfl rfl⟩
  have HB0 := Lib.hid hF0.1; have HK0 := Lib.hid hF0.2
  clear hW hF0
  refine (awake4_calls vE vM W0 (rangeAt_below T0.out HB0.out) (rangeAt_below T1.out HB0.out) ((HB0.out.cell (p := ⟨_, 0, none⟩) HGE.out).trans HCE.out) ((HB0.out.cell (p := ⟨_, 0, none⟩) HGM.out).trans HCM.out)).mono ?_
  rintro e W1 ⟨rfl, hb1⟩
  have HB1 := Lib.hid (HB0.out.trans (hb1.mono HB0.out.size)); have HK1 := Lib.hid (HK0.out.below hb1 HK0.out.inside)
  clear hb1
  go_wp2_with fail
  refine (cut_calls s0 100 (by decide) _).mono ?_
  rintro e W1' ⟨⟨s, rfl, hcut, hsz⟩, rfl⟩
  have HSZ := Lib.hid hsz
  clear hcut hsz
  go_wp2_with fail
  refine (cut_calls x0 40 (by decide) _).mono ?_
  rintro e W1' ⟨⟨x, rfl, hcut, hxz⟩, rfl⟩
  have HXZ := Lib.hid hxz
  clear hcut hxz
  obtain ⟨k31, hk31⟩ : ∃ k, k = ix ks 31 := ⟨_, rfl⟩
  have c31 : W1.cell? ⟨w.heap.size, 31, none⟩ = some (.int .u8 k31) := by rw [hk31]; exact HK1.out.int 31 (by rw [HK.out]; decide)
  have hb31 : 0 ≤ k31 ∧ k31 ≤ 255 := by rw [hk31]; exact U8s_of_mem BK.out 31
  have hw8 : IntKind.u8.wrap (x.size : Int) = (x.size : Int) % 256 := by rw [IntKind.wrap_u8']
  obtain ⟨ns, hns⟩ : ∃ ns, ns = nonceS x.size k31 := ⟨_, rfl⟩
  have hnl : ns.length = 12 := by rw [hns]; rfl
  have hnm : ∀ b ∈ ns, 0 ≤ b ∧ b ≤ 255 := by rw [hns]; exact nonceS_mem _ _ hb31
  have H2 := Lib.hid (show (Tryd.prog.info? 24).map (·.size) = some (rowI .u8 ns).size by rw [rowI_size, hnl]; kernel_rfl)
  have HNS := Lib.hid hns; have HN := Lib.hid hnl; have BN := Lib.hid hnm
  clear hns hnl hnm hk31 hb31
  obtain ⟨X, hX⟩ : ∃ X, X = strOfNums (sealI ks ns (bI s) (bI x)) := ⟨_, rfl⟩
  have hXb : bI X = sealI ks ns (bI s) (bI x) := by rw [hX, bI_str (sealI_mem _ _ _ _)]
  have hXs : X.size = s.size + 16 := by rw [← bI_length, hXb, sealI_length, bI_length]
  have hos := open_seal ks ns (bI s) (bI x) (U8s_bI _)
  rw [← hXb] at hos
  have HX := Lib.hid hX; have HXS := Lib.hid hXs; have HOS := Lib.hid hos
  clear hX hXb hXs hos
  have hk2 : Whole (W1.alloc (.cells (rowI .u8 ns) 24)) w.heap.size 22 (rowI .u8 ks) := HK1.out.alloc _
  have hn2 : Whole (W1.alloc (.cells (rowI .u8 ns) 24)) W1.heap.size 24 (rowI .u8 ns) := Whole.new rfl rfl
  have hB2 : Below w.heap.size w (W1.alloc (.cells (rowI .u8 ns) 24)) := HB1.out.alloc HB1.out.size _
  have HK2 := Lib.hid hk2; have HN2 := Lib.hid hn2; have HB2 := Lib.hid hB2
  rw [HNS.out] at hk2 hn2
  clear hB2
  go_wp2_with (first
    | (refine wpList_load_row rfl 22 (.tmp 3) rfl _ rfl 22 (rowI .u8 ks) (0, 0) _ hk2 Tryd.underlying22 rfl H1.out ?_)
    | (refine wpList_load_row rfl 24 (.tmp 7) rfl _ rfl 24 (rowI .u8 (nonceS x.size k31)) (0, 0) _ hn2 Tryd.underlying24 rfl (by kernel_rfl) ?_)
    | fail)
  clear hk2 hn2
  rw [← HNS.out]
  obtain ⟨gn, hgn⟩ : ∃ gn, gn = W1.heap.size := ⟨_, rfl⟩
  generalize hW : W1.alloc _ = W2
  have hF2 : Below w.heap.size w W2 ∧ Whole W2 w.heap.size 22 (rowI .u8 ks) ∧ Whole W2 gn 24 (rowI .u8 ns) := by
    have e := HNS.out
    have h := And.intro HB2.out (And.intro HK2.out HN2.out)
    rw [← hgn] at h
    subst e
    subst hW
    exact h
  rw [← hgn]
  have HB2 := Lib.hid hF2.1; have HK2 := Lib.hid hF2.2.1; have HN2 := Lib.hid hF2.2.2
  clear hW hgn hF2 c31 hw8
  refine (pseal_calls ks ns s x HK.out HN.out (U8s_of_mem BK.out) (U8s_of_mem BN.out) (by have := HSZ.out; omega) (by have := HXZ.out; omega) W2 (rangeAt_below T0.out HB2.out) (rangeAt_below T1.out HB2.out)).mono ?_
  rw [← HX.out]
  rintro e W3 ⟨rfl, hb3⟩
  have HB3 := Lib.hid (HB2.out.trans (hb3.mono HB2.out.size))
  have hk3 := HK2.out.below hb3 HK2.out.inside
  have hn3 := HN2.out.below hb3 HN2.out.inside
  clear hb3
  go_wp2_with (first
    | (refine wpList_load_row rfl 22 (.tmp 3) rfl _ rfl 22 (rowI .u8 ks) (0, 0) _ hk3 Tryd.underlying22 rfl H1.out ?_)
    | (refine wpList_load_row rfl 24 (.tmp 7) rfl _ rfl 24 (rowI .u8 ns) (0, 0) _ hn3 Tryd.underlying24 rfl H2.out ?_)
    | fail)
  have HK3 := Lib.hid hk3; have HN3 := Lib.hid hn3
  clear hk3 hn3
  refine (popen_calls ks ns X x HK.out HN.out (U8s_of_mem BK.out) (U8s_of_mem BN.out) (by have := HXS.out; have := HSZ.out; omega) (by have := HXZ.out; omega) vE vM W3 (rangeAt_below T0.out HB3.out) (rangeAt_below T1.out HB3.out) ((HB3.out.cell (p := ⟨_, 0, none⟩) HGE.out).trans HCE.out) ((HB3.out.cell (p := ⟨_, 0, none⟩) HGM.out).trans HCM.out)).mono ?_
  rw [HOS.out.1, HOS.out.2, str_bI, show errV 0 vE vM = .nilIface from rfl]
  rintro e W4 ⟨rfl, hb4⟩
  have HF4 := Lib.hid (And.intro (HB3.out.trans (hb4.mono HB3.out.size)) (And.intro (HK3.out.below hb4 HK3.out.inside) (HN3.out.below hb4 HN3.out.inside)))
  clear hb4
  go_wp2_with fail
  refine wp_region_class (fun W => Below w.heap.size w W ∧ Whole W w.heap.size 22 (rowI .u8 ks) ∧ Whole W gn 24 (rowI .u8 ns)) (by kernel_rfl) (by kernel_rfl) ⟨(HF4.out.1.trans (below_drawnN (Below.refl _ _) 1)), HF4.out.2.1.drew, HF4.out.2.2.drew⟩ ?_
  refine wpQuiet_step (fun K hK => ?_)
  refine quiet_want (by kernel_rfl) ⟨(.string X), fun W hW => ?_, ?_⟩
  · refine quietAt_val ?_
    go_simp
  go_simp
  refine hK _ ?_
  clear hK K
  refine wpQuiet_step (fun K hK => ?_)
  refine quiet_want (by kernel_rfl) ⟨(.slice (some ⟨w.heap.size, 0, none⟩) 32 32), fun W hW => ?_, ?_⟩
  · refine quietAt_val ?_
    go_simp
  go_simp
  refine hK _ ?_
  clear hK K
  refine wpQuiet_step (fun K hK => ?_)
  refine quiet_want (by kernel_rfl) ⟨(.string (strOfNums ks)), fun W hW => ?_, ?_⟩
  · refine quietAt_val ?_
    have hrun := run_convert_bytes_arg (P := Tryd.prog) W 28 5 Tryd.underlying28 Tryd.underlying5 w.heap.size 0 32 32 ks HK.out (whole_sliced W _ _ ks 32 hW.2.1 HK.out) 9 Tryd.underlying9
    go_simp
  go_simp
  refine hK _ ?_
  clear hK K
  refine wpQuiet_step (fun K hK => ?_)
  refine quiet_want (by kernel_rfl) ⟨(.slice (some ⟨gn, 0, none⟩) 12 12), fun W hW => ?_, ?_⟩
  · refine quietAt_val ?_
    go_simp
  go_simp
  refine hK _ ?_
  clear hK K
  refine wpQuiet_step (fun K hK => ?_)
  refine quiet_want (by kernel_rfl) ⟨(.string (strOfNums ns)), fun W hW => ?_, ?_⟩
  · refine quietAt_val ?_
    have hrun := run_convert_bytes_arg (P := Tryd.prog) W 28 5 Tryd.underlying28 Tryd.underlying5 gn 0 12 12 ns HN.out (whole_sliced W _ _ ns 12 hW.2.2 HN.out) 9 Tryd.underlying9
    go_simp
  go_simp
  refine hK _ ?_
  clear hK K
  refine wpQuiet_step (fun K hK => ?_)
  refine quiet_want (by kernel_rfl) ⟨(.string s), fun W hW => ?_, ?_⟩
  · refine quietAt_val ?_
    go_simp
  go_simp
  refine hK _ ?_
  clear hK K
  refine wpQuiet_step (fun K hK => ?_)
  refine quiet_want (by kernel_rfl) ⟨(.string x), fun W hW => ?_, ?_⟩
  · refine quietAt_val ?_
    go_simp
  go_simp
  refine hK _ ?_
  clear hK K
  refine wpQuiet_step (fun K hK => ?_)
  refine quiet_want (by kernel_rfl) ⟨(.string X), fun W hW => ?_, ?_⟩
  · refine quietAt_call (f := 24) (args := (#[.string (strOfNums ks), .string (strOfNums ns), .string s, .string x])) (by go_simp) ?_
    refine (rseal_calls (strOfNums ks) (strOfNums ns) s x (key_of ks HK.out BK.out).2 (by rw [str_size, HN.out]) (by have := HSZ.out; omega) (by have := HXZ.out; omega) W).mono ?_
    rw [(key_of ks HK.out BK.out).1, bI_str BN.out, ← HX.out]
    rintro e W' ⟨rfl, hb⟩
    exact ⟨rfl, hW.1.trans (hb.mono hW.1.size), hW.2.1.below hb hW.2.1.inside, hW.2.2.below hb hW.2.2.inside⟩
  go_simp
  refine hK _ ?_
  clear hK K
  refine wpQuiet_step (fun K hK => ?_)
  refine quiet_want (by kernel_rfl) ⟨(.bool true), fun W hW => ?_, ?_⟩
  · refine quietAt_val ?_
    go_simp
  go_simp
  refine hK _ ?_
  clear hK K
  refine wpQuiet_step (fun K hK => ?_)
  refine quiet_want (by kernel_rfl) ⟨(.bool true), fun W hW => ?_, ?_⟩
  · refine quietAt_val ?_
    go_simp
  go_simp
  refine hK _ ?_
  clear hK K
  refine wpQuiet_step (fun K hK => ?_)
  refine quiet_want (by kernel_rfl) ⟨(.string s), fun W hW => ?_, ?_⟩
  · refine quietAt_val ?_
    go_simp
  go_simp
  refine hK _ ?_
  clear hK K
  refine wpQuiet_step (fun K hK => ?_)
  refine quiet_want (by kernel_rfl) ⟨(.string s), fun W hW => ?_, ?_⟩
  · refine quietAt_val ?_
    go_simp
  go_simp
  refine hK _ ?_
  clear hK K
  refine wpQuiet_step (fun K hK => ?_)
  refine quiet_want (by kernel_rfl) ⟨(.bool true), fun W hW => ?_, ?_⟩
  · refine quietAt_val ?_
    go_simp
  go_simp
  refine hK _ ?_
  clear hK K
  refine wpQuiet_step (fun K hK => ?_)
  refine quiet_want (by kernel_rfl) ⟨(.bool true), fun W hW => ?_, ?_⟩
  · refine quietAt_val ?_
    go_simp
  go_simp
  refine hK _ ?_
  clear hK K
  refine wpQuiet_step (fun K hK => ?_)
  refine quiet_want (by kernel_rfl) ⟨(.bool true), fun W hW => ?_, ?_⟩
  · refine quietAt_val ?_
    go_simp
  go_simp
  refine hK _ ?_
  clear hK K
  refine wpQuiet_step (fun K hK => ?_)
  refine quiet_want (by kernel_rfl) ⟨(.nilIface), fun W hW => ?_, ?_⟩
  · refine quietAt_val ?_
    go_simp
  go_simp
  refine hK _ ?_
  clear hK K
  refine wpQuiet_step (fun K hK => ?_)
  refine quiet_want (by kernel_rfl) ⟨(.bool true), fun W hW => ?_, ?_⟩
  · refine quietAt_val ?_
    go_simp
  go_simp
  refine hK _ ?_
  clear hK K
  refine wpQuiet_step (fun K hK => ?_)
  refine quiet_want (by kernel_rfl) ⟨(.bool true), fun W hW => ?_, ?_⟩
  · refine quietAt_val ?_
    go_simp
  go_simp
  refine hK _ ?_
  clear hK K
  refine wpQuiet_step (fun K hK => ?_)
  refine quiet_want (by kernel_rfl) ⟨(.bool true), fun W hW => ?_, ?_⟩
  · refine quietAt_val ?_
    go_simp
  go_simp
  refine hK _ ?_
  clear hK K
  refine wpQuiet_step (fun K hK => ?_)
  refine quiet_want (by kernel_rfl) ⟨(.string X), fun W hW => ?_, ?_⟩
  · refine quietAt_val ?_
    go_simp
  go_simp
  refine hK _ ?_
  clear hK K
  refine wpQuiet_step (fun K hK => ?_)
  refine quiet_want (by kernel_rfl) ⟨(.int .i64 X.size), fun W hW => ?_, ?_⟩
  · refine quietAt_val ?_
    go_simp
  go_simp
  refine hK _ ?_
  clear hK K
  refine wpQuiet_step (fun K hK => ?_)
  refine quiet_want (by kernel_rfl) ⟨(.string s), fun W hW => ?_, ?_⟩
  · refine quietAt_val ?_
    go_simp
  go_simp
  refine hK _ ?_
  clear hK K
  refine wpQuiet_step (fun K hK => ?_)
  refine quiet_want (by kernel_rfl) ⟨(.int .i64 s.size), fun W hW => ?_, ?_⟩
  · refine quietAt_val ?_
    go_simp
  go_simp
  refine hK _ ?_
  clear hK K
  refine wpQuiet_step (fun K hK => ?_)
  refine quiet_want (by kernel_rfl) ⟨(.int .i64 ((s.size : Int) + 16)), fun W hW => ?_, ?_⟩
  · refine quietAt_val ?_
    have hw : IntKind.i64.wrap ((s.size : Int) + 16) = (s.size : Int) + 16 := by have := HSZ.out; rw [IntKind.wrap_i64]; omega
    go_simp
  go_simp
  refine hK _ ?_
  clear hK K
  refine wpQuiet_step (fun K hK => ?_)
  refine quiet_want (by kernel_rfl) ⟨(.bool true), fun W hW => ?_, ?_⟩
  · refine quietAt_val ?_
    have hx : (X.size : Int) = (s.size : Int) + 16 := by have := HXS.out; omega
    go_simp
  go_simp
  refine hK _ ?_
  clear hK K
  refine wpQuiet_step (fun K hK => ?_)
  refine quiet_want (by kernel_rfl) ⟨(.bool true), fun W hW => ?_, ?_⟩
  · refine quietAt_val ?_
    go_simp
  go_simp
  refine hK _ ?_
  clear hK K
  refine wpQuiet_step (fun K hK => ?_)
  refine quiet_want (by kernel_rfl) ⟨(.bool true), fun W hW => ?_, ?_⟩
  · refine quietAt_val ?_
    go_simp
  go_simp
  refine hK _ ?_
  clear hK K
  refine wpQuiet_nil ?_
  intro W5 hF5
  have HF5 := Lib.hid hF5.1
  clear hF5
  go_wp2_with fail
  go_ret
  exact ⟨rfl, HF5.out⟩
end Go.Proofs.YtfoljmpphbhobaaDoor
namespace Go.Proofs.YtfoljmpphbhobaaDoor
open Go.RowKit Go.Spk
set_option linter.unusedVariables false
theorem run_one' (W : World) (b : Int) : (convert 28 9 (.slice (some ⟨W.heap.size, 0, none⟩) 1 1)).run Tryd.prog (W.alloc (.cells #[.int .u8 b] 5)) = .ok (.string (strOfNums [b])) (W.alloc (.cells #[.int .u8 b] 5)) := run_one W b
set_option maxRecDepth 100000 in
set_option maxHeartbeats 2000000 in
theorem edges_calls (ks : List Int) (A : Option Addr) (zs : List Int) (cap : Nat) (hz : U8s zs) (hzl : zs.length ≤ maxLen) (hk : ks.length = 32) (bk : ∀ b ∈ ks, 0 ≤ b ∧ b ≤ 255) (vE vM : Value) (w : World) (hR : Rd w A (zs.map (Value.int .u8)))
   (t0 : w.rangeAt 0 0 (beginI.map (Value.int .u32))) (t1 : w.rangeAt 1 0 orderC)
   (cE : w.cell? ⟨2, 0, none⟩ = some vE) (cM : w.cell? ⟨3, 0, none⟩ = some vM) :
    Calls Tryd.prog 7 #[.agg (rowI .u8 ks), .slice A zs.length cap] w fun e w' => e = .returned (.bool true) ∧ Below w.heap.size w w' := by
  have T0 := Lib.hid t0; have T1 := Lib.hid t1; clear t0 t1
  have HGE := Lib.hid (block_lt_of_cell cE); have HGM := Lib.hid (block_lt_of_cell cM); have HCE := Lib.hid cE; have HCM := Lib.hid cM
  clear cE cM
  have H1 := Lib.hid (show (Tryd.prog.info? 22).map (·.size) = some (rowI .u8 ks).size by rw [rowI_size, hk]; kernel_rfl)
  have HK := Lib.hid hk; have BK := Lib.hid bk; have HR := Lib.hid hR; have HZ := Lib.hid hz
  unfold maxLen at hzl
  clear hk bk hR hz
  generalize hn : zs.length = n at hzl
  have HN := Lib.hid hn
  clear hn
  go_enter Tryd.func7, Tryd.ntmps7
  go_wp2_with fail
  generalize hW : w.alloc _ = W0
  have hF0 : Below w.heap.size w W0 ∧ Whole W0 w.heap.size 22 (rowI .u8 ks) := by
    subst hW; exact ⟨by go_grown, Whole.new rfl rfl⟩
  have HB0 := Lib.hid hF0.1; have HK0 := Lib.hid hF0.2
  clear hW hF0
  refine (awake4_calls vE vM W0 (rangeAt_below T0.out HB0.out) (rangeAt_below T1.out HB0.out) ((HB0.out.cell (p := ⟨_, 0, none⟩) HGE.out).trans HCE.out) ((HB0.out.cell (p := ⟨_, 0, none⟩) HGM.out).trans HCM.out)).mono ?_
  rintro e W1 ⟨rfl, hb1⟩
  have HB1 := Lib.hid (HB0.out.trans (hb1.mono HB0.out.size)); have HK1 := Lib.hid (HK0.out.below hb1 HK0.out.inside)
  clear hb1
  go_wp2_with fail
  go_loopw [5, 6] (fun v i wr => ∃ (t : ByteArray) (k : Nat), v = .string t ∧ i = .int .i64 k ∧ k ≤ 8 ∧ k ≤ n ∧ t.size = 16 * k ∧ Below w.heap.size w wr ∧ Whole wr w.heap.size 22 (rowI .u8 ks)) (fun _ i _ => 8 - (intOf i).toNat)
  case atStart => exact ⟨_, 0, rfl, rfl, by omega, by omega, rfl, HB1.out, HK1.out⟩
  case round =>
    obtain ⟨t, k, rfl, rfl, hk8, hkn, hts, hB, hK⟩ := hrel
    have HB := Lib.hid hB; have HKK := Lib.hid hK; have HTS := Lib.hid hts
    clear hB hK
    by_cases h1 : k < 8 ∧ k < n
    · obtain ⟨h8, hnn⟩ := h1
      have i1 : (k : Int) < 8 := by omega
      have i2 : (k : Int) < n := by omega
      obtain ⟨ad, hA, hblk, hcl⟩ := HR.out.at_ (k := k) (by rw [List.length_map, HN.out]; exact hnn)
      subst hA
      have hu := HZ.out k
      obtain ⟨u, hu1⟩ : ∃ u, u = ix zs k := ⟨_, rfl⟩
      have hcl1 : w.cell? (ad.add k) = some (.int .u8 u) := by
        rw [hcl, hu1]
        simp [ix, List.getD, show k < zs.length by rw [HN.out]; exact hnn]
      rw [← hu1] at hu
      have HCL := Lib.hid hcl1; have HBK := Lib.hid hblk
      have e15 := and15 u hu.1 hu.2
      clear hcl hcl1 hu1 hblk hts
      go_wp2_with fail
      go_loopw [5, 22] (fun v i wr => ∃ (t' : ByteArray) (j : Nat), v = .string t' ∧ i = .int .i64 j ∧ j ≤ 16 ∧ t'.size = 16 * k + j ∧ Below w.heap.size w wr ∧ Whole wr w.heap.size 22 (rowI .u8 ks)) (fun _ i _ => 16 - (intOf i).toNat)
      case atStart => exact ⟨t, 0, rfl, rfl, by omega, HTS.out, HB.out, HKK.out⟩
      case round =>
        clear HB HKK
        obtain ⟨t', j, rfl, rfl, hj, hts', hB, hK⟩ := hrel
        have HB := Lib.hid hB; have HKK := Lib.hid hK; have HTS' := Lib.hid hts'
        have cU : wr.cell? (ad.add k) = some (.int .u8 u) := (hB.cell (by rw [add_block]; exact HBK.out)).trans HCL.out
        clear hB hK hts'
        by_cases h2 : j < 16
        · have j1 : (j : Int) < 16 := by omega
          have hone := run_one
          by_cases heq : (j : Int) = u % 16
          · have s1 : (strOfNums [u]).size = 1 := str_size _
            have hcs : t'.size + (strOfNums [u]).size ≤ 1000 := by have := HTS'.out; omega
            have S1 := Lib.hid s1
            clear s1
            go_wp2_with fail
            go_roundw
            case rel => exact ⟨_, j + 1, rfl, by rw [← heq]; go_num, by omega, by rw [ByteArray.size_append, S1.out, HTS'.out]; omega, HB.out.alloc HB.out.size _, HKK.out.alloc _⟩
            case measure => rw [← heq]; simp [intOf]; omega
          · have s1 : (strOfNums [255]).size = 1 := str_size _
            have hcs : t'.size + (strOfNums [255]).size ≤ 1000 := by have := HTS'.out; omega
            have S1 := Lib.hid s1
            clear s1
            go_wp2_with fail
            go_roundw
            case rel => exact ⟨_, j + 1, rfl, by go_num, by omega, by rw [ByteArray.size_append, S1.out, HTS'.out]; omega, HB.out.alloc HB.out.size _, HKK.out.alloc _⟩
            case measure => simp [intOf]; omega
        · obtain rfl : j = 16 := by omega
          go_wp2_with fail
          go_roundw
          case rel => exact ⟨t', k + 1, rfl, by go_num, by omega, by omega, by have := HTS'.out; omega, HB.out, HKK.out⟩
          case measure => simp [intOf]; omega
    · have i1 : ¬ ((k : Int) < n ∧ (k : Int) < 8) := by omega
      clear hts
      by_cases h3 : k < n
      case' pos =>
        have i2 : (k : Int) < n := by omega
        have i3 : ¬ (k : Int) < 8 := by omega
      case' neg =>
        have i2 : ¬ (k : Int) < n := by omega
        have i3 : True := trivial
      all_goals
        clear i1 h1
        have hk1 := HKK.out
        go_wp2_with (first
          | (refine wpList_load_row rfl 22 (.tmp 2) rfl _ rfl 22 (rowI .u8 ks) (0, 0) _ hk1 Tryd.underlying22 rfl H1.out ?_)
          | fail)
        clear hk1
        refine (psum_calls ks t HK.out (U8s_of_mem BK.out) (by have := HTS.out; omega) wr).mono ?_
        rintro e W2 ⟨rfl, hb2⟩
        obtain ⟨P, hP⟩ : ∃ P, P = polyI ks (bI t) := ⟨_, rfl⟩
        have hPl : P.length = 16 := by rw [hP]; exact bytesN_length _ _
        rw [← hP]
        have HS := Lib.hid (show (Tryd.prog.info? 37).map (·.size) = some (rowI .u8 P).size by rw [rowI_size, hPl]; kernel_rfl)
        have HP := Lib.hid hP; have HPL := Lib.hid hPl
        have HB2 := Lib.hid (HB.out.trans (hb2.mono HB.out.size)); have HK2 := Lib.hid (HKK.out.below hb2 HKK.out.inside)
        clear hP hPl hb2
        go_wp2_with (first
          | (refine wpList_store_row rfl 37 (.tmp 9) (.tmp 45) rfl W2.heap.size (rowI .u8 P) rfl rfl 37 _ (heap_alloc_new _ _) HS.out (by rw [rowI_size, HPL.out]; rfl) (rowI_one _ _) ?_)
          | fail)
        refine name_wp (fun W => Below w.heap.size w W ∧ Whole W w.heap.size 22 (rowI .u8 ks) ∧ Whole W W2.heap.size 37 (rowI .u8 P))
          ⟨(HB2.out.alloc HB2.out.size _).grown (only_row _ _ _) (by simp; exact Nat.le_succ_of_le HB2.out.size) (fun k hk => by injection hk with hk; subst hk; exact HB2.out.size), (HK2.out.alloc _).only (only_row _ _ _) (ne_some (by have := HK2.out.inside; omega)), Whole.row (Whole.new (cs' := _) rfl rfl)⟩ ?_
        generalize W2.heap.size = g2
        intro W3 hF3
        refine wp_region_class (fun W => Below w.heap.size w W ∧ Whole W w.heap.size 22 (rowI .u8 ks) ∧ Whole W g2 37 (rowI .u8 P)) (by kernel_rfl) (by kernel_rfl) ⟨(hF3.1.trans (below_drawnN (Below.refl _ _) 1)), hF3.2.1.drew, hF3.2.2.drew⟩ ?_
        clear hF3 W3
        refine wpQuiet_step (fun K hK => ?_)
        refine quiet_want (by kernel_rfl) ⟨(.slice (some ⟨g2, 0, none⟩) 16 16), fun W hW => ?_, ?_⟩
        · refine quietAt_val ?_
          go_simp
        go_simp
        refine hK _ ?_
        clear hK K
        refine wpQuiet_step (fun K hK => ?_)
        refine quiet_want (by kernel_rfl) ⟨(.string (strOfNums P)), fun W hW => ?_, ?_⟩
        · refine quietAt_val ?_
          have hrun := run_convert_bytes_arg (P := Tryd.prog) W 28 5 Tryd.underlying28 Tryd.underlying5 g2 0 16 16 P HPL.out (whole_sliced W _ _ P 16 hW.2.2 HPL.out) 9 Tryd.underlying9
          go_simp
        go_simp
        refine hK _ ?_
        clear hK K
        refine wpQuiet_step (fun K hK => ?_)
        refine quiet_want (by kernel_rfl) ⟨(.slice (some ⟨w.heap.size, 0, none⟩) 32 32), fun W hW => ?_, ?_⟩
        · refine quietAt_val ?_
          go_simp
        go_simp
        refine hK _ ?_
        clear hK K
        refine wpQuiet_step (fun K hK => ?_)
        refine quiet_want (by kernel_rfl) ⟨(.string (strOfNums ks)), fun W hW => ?_, ?_⟩
        · refine quietAt_val ?_
          have hrun := run_convert_bytes_arg (P := Tryd.prog) W 28 5 Tryd.underlying28 Tryd.underlying5 w.heap.size 0 32 32 ks HK.out (whole_sliced W _ _ ks 32 hW.2.1 HK.out) 9 Tryd.underlying9
          go_simp
        go_simp
        refine hK _ ?_
        clear hK K
        refine wpQuiet_step (fun K hK => ?_)
        refine quiet_want (by kernel_rfl) ⟨(.string t), fun W hW => ?_, ?_⟩
        · refine quietAt_val ?_
          go_simp
        go_simp
        refine hK _ ?_
        clear hK K
        refine wpQuiet_step (fun K hK => ?_)
        refine quiet_want (by kernel_rfl) ⟨(.string (strOfNums P)), fun W hW => ?_, ?_⟩
        · refine quietAt_call (f := 21) (args := (#[.string (strOfNums ks), .string t])) (by go_simp) ?_
          refine (rsum_calls (strOfNums ks) t (key_of ks HK.out BK.out).2 (by have := HTS.out; omega) W).mono ?_
          rw [(key_of ks HK.out BK.out).1, ← HP.out]
          rintro e W' ⟨rfl, hb⟩
          exact ⟨rfl, hW.1.trans (hb.mono hW.1.size), hW.2.1.below hb hW.2.1.inside, hW.2.2.below hb hW.2.2.inside⟩
        go_simp
        refine hK _ ?_
        clear hK K
        refine wpQuiet_step (fun K hK => ?_)
        refine quiet_want (by kernel_rfl) ⟨(.bool true), fun W hW => ?_, ?_⟩
        · refine quietAt_val ?_
          go_simp
        go_simp
        refine hK _ ?_
        clear hK K
        refine wpQuiet_step (fun K hK => ?_)
        refine quiet_want (by kernel_rfl) ⟨(.bool true), fun W hW => ?_, ?_⟩
        · refine quietAt_val ?_
          go_simp
        go_simp
        refine hK _ ?_
        clear hK K
        refine wpQuiet_nil ?_
        intro W4 hF4
        have HF4 := Lib.hid hF4.1
        clear hF4
        go_wp2_with fail
        go_ret
        exact ⟨rfl, HF4.out⟩
end Go.Proofs.YtfoljmpphbhobaaDoor
