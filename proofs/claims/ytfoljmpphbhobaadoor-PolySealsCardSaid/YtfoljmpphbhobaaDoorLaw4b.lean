/- The walk of PolySeals: it answers true. -/
import Derived.Test.YtfoljmpphbhobaaDoorLaw4a
namespace Go.Proofs.YtfoljmpphbhobaaDoor
open Go.RowKit Go.Spk
set_option linter.unusedVariables false
/-- The nonce that the law makes: the length, and the key's last byte. -/
def nonceS (n : Nat) (k : Int) : List Int := [(n : Int) % 256, 0, 0, 0, 0, 0, 0, 0, 0, 0, 0, k]
theorem nonceS_mem (n : Nat) (k : Int) (hk : 0 ≤ k ∧ k ≤ 255) : ∀ b ∈ nonceS n k, 0 ≤ b ∧ b ≤ 255 := by
  intro b hb
  simp only [nonceS, List.mem_cons, List.not_mem_nil, or_false] at hb
  rcases hb with rfl | rfl | rfl | rfl | rfl | rfl | rfl | rfl | rfl | rfl | rfl | rfl <;> omega
set_option maxRecDepth 100000 in
set_option maxHeartbeats 2000000 in
theorem seals_calls (ks : List Int) (s0 x0 : ByteArray) (hk : ks.length = 32) (bk : ∀ b ∈ ks, 0 ≤ b ∧ b ≤ 255) (vE vM : Value) (w : World)
   (t0 : w.rangeAt 0 0 (beginI.map (Value.int .u32))) (t1 : w.rangeAt 1 0 orderC)
   (cE : w.cell? ⟨2, 0, none⟩ = some vE) (cM : w.cell? ⟨3, 0, none⟩ = some vM) :
    Calls Tryd.prog 8 #[.agg (rowI .u8 ks), .string s0, .string x0] w fun e w' => e = .returned (.bool true) ∧ Below w.heap.size w w' := by
  have T0 := Lib.hid t0; have T1 := Lib.hid t1; clear t0 t1
  have HGE := Lib.hid (block_lt_of_cell cE); have HGM := Lib.hid (block_lt_of_cell cM); have HCE := Lib.hid cE; have HCM := Lib.hid cM
  clear cE cM
  have H1 := Lib.hid (show (Tryd.prog.info? 22).map (·.size) = some (rowI .u8 ks).size by rw [rowI_size, hk]; kernel_rfl)
  have HK := Lib.hid hk; have BK := Lib.hid bk
  clear hk bk
  go_enter Tryd.func8, Tryd.ntmps8
  go_wp2_with fail
  generalize hW : w.alloc _ = W0
  have hF0 : Below w.heap.size w W0 ∧ Whole W0 w.heap.size 22 (rowI .u8 ks) := by
    subst hW; exact ⟨by go_grown, Whole.new rfl rfl⟩
  have HB0 := Lib.hid hF0.1; have HK0 := Lib.hid hF0.2
  clear hW hF0
  refine (awake4_calls vE vM W0 (rangeAt_below T0.out HB0.out) (rangeAt_below T1.out HB0.out) ((HB0.out.cell (p := ⟨_, 0, none⟩) HGE.out).trans HCE.out) ((HB0.out.cell (p := ⟨_, 0, none⟩) HGM.out).trans HCM.out)).mono ?_
  rintro e W1 ⟨rfl, hb1⟩
  have HB1 := Lib.hid (HB0.out.trans (hb1.mono HB0.out.size)); have HK1 := Lib.hid (HK0.out.below hb1 HK0.out.inside)
  clear hb1
  go_wp2_with fail
  refine (cut_calls s0 100 (by decide) _).mono ?_
  rintro e W1' ⟨⟨s, rfl, hcut, hsz⟩, rfl⟩
  have HSZ := Lib.hid hsz
  clear hcut hsz
  go_wp2_with fail
  refine (cut_calls x0 40 (by decide) _).mono ?_
  rintro e W1' ⟨⟨x, rfl, hcut, hxz⟩, rfl⟩
  have HXZ := Lib.hid hxz
  clear hcut hxz
  obtain ⟨k31, hk31⟩ : ∃ k, k = ix ks 31 := ⟨_, rfl⟩
  have c31 : W1.cell? ⟨w.heap.size, 31, none⟩ = some (.int .u8 k31) := by rw [hk31]; exact HK1.out.int 31 (by rw [HK.out]; decide)
  have hb31 : 0 ≤ k31 ∧ k31 ≤ 255 := by rw [hk31]; exact U8s_of_mem BK.out 31
  have hw8 : IntKind.u8.wrap (x.size : Int) = (x.size : Int) % 256 := by rw [IntKind.wrap_u8']
  obtain ⟨ns, hns⟩ : ∃ ns, ns = nonceS x.size k31 := ⟨_, rfl⟩
  have hnl : ns.length = 12 := by rw [hns]; rfl
  have hnm : ∀ b ∈ ns, 0 ≤ b ∧ b ≤ 255 := by rw [hns]; exact nonceS_mem _ _ hb31
  have H2 := Lib.hid (show (Tryd.prog.info? 24).map (·.size) = some (rowI .u8 ns).size by rw [rowI_size, hnl]; kernel_rfl)
  have HNS := Lib.hid hns; have HN := Lib.hid hnl; have BN := Lib.hid hnm
  clear hns hnl hnm hk31 hb31
  obtain ⟨X, hX⟩ : ∃ X, X = strOfNums (sealI ks ns (bI s) (bI x)) := ⟨_, rfl⟩
  have hXb : bI X = sealI ks ns (bI s) (bI x) := by rw [hX, bI_str (sealI_mem _ _ _ _)]
  have hXs : X.size = s.size + 16 := by rw [← bI_length, hXb, sealI_length, bI_length]
  have hos := open_seal ks ns (bI s) (bI x) (U8s_bI _)
  rw [← hXb] at hos
  have HX := Lib.hid hX; have HXS := Lib.hid hXs; have HOS := Lib.hid hos
  clear hX hXb hXs hos
  have hk2 : Whole (W1.alloc (.cells (rowI .u8 ns) 24)) w.heap.size 22 (rowI .u8 ks) := HK1.out.alloc _
  have hn2 : Whole (W1.alloc (.cells (rowI .u8 ns) 24)) W1.heap.size 24 (rowI .u8 ns) := Whole.new rfl rfl
  have hB2 : Below w.heap.size w (W1.alloc (.cells (rowI .u8 ns) 24)) := HB1.out.alloc HB1.out.size _
  have HK2 := Lib.hid hk2; have HN2 := Lib.hid hn2; have HB2 := Lib.hid hB2
  rw [HNS.out] at hk2 hn2
  clear hB2
  go_wp2_with (first
    | (refine wpList_load_row rfl 22 (.tmp 3) rfl _ rfl 22 (rowI .u8 ks) (0, 0) _ hk2 Tryd.underlying22 rfl H1.out ?_)
    | (refine wpList_load_row rfl 24 (.tmp 7) rfl _ rfl 24 (rowI .u8 (nonceS x.size k31)) (0, 0) _ hn2 Tryd.underlying24 rfl (by kernel_rfl) ?_)
    | fail)
  clear hk2 hn2
  rw [← HNS.out]
  obtain ⟨gn, hgn⟩ : ∃ gn, gn = W1.heap.size := ⟨_, rfl⟩
  generalize hW : W1.alloc _ = W2
  have hF2 : Below w.heap.size w W2 ∧ Whole W2 w.heap.size 22 (rowI .u8 ks) ∧ Whole W2 gn 24 (rowI .u8 ns) := by
    have e := HNS.out
    have h := And.intro HB2.out (And.intro HK2.out HN2.out)
    rw [← hgn] at h
    subst e
    subst hW
    exact h
  rw [← hgn]
  have HB2 := Lib.hid hF2.1; have HK2 := Lib.hid hF2.2.1; have HN2 := Lib.hid hF2.2.2
  clear hW hgn hF2 c31 hw8
  refine (pseal_calls ks ns s x HK.out HN.out (U8s_of_mem BK.out) (U8s_of_mem BN.out) (by have := HSZ.out; omega) (by have := HXZ.out; omega) W2 (rangeAt_below T0.out HB2.out) (rangeAt_below T1.out HB2.out)).mono ?_
  rw [← HX.out]
  rintro e W3 ⟨rfl, hb3⟩
  have HB3 := Lib.hid (HB2.out.trans (hb3.mono HB2.out.size))
  have hk3 := HK2.out.below hb3 HK2.out.inside
  have hn3 := HN2.out.below hb3 HN2.out.inside
  clear hb3
  go_wp2_with (first
    | (refine wpList_load_row rfl 22 (.tmp 3) rfl _ rfl 22 (rowI .u8 ks) (0, 0) _ hk3 Tryd.underlying22 rfl H1.out ?_)
    | (refine wpList_load_row rfl 24 (.tmp 7) rfl _ rfl 24 (rowI .u8 ns) (0, 0) _ hn3 Tryd.underlying24 rfl H2.out ?_)
    | fail)
  have HK3 := Lib.hid hk3; have HN3 := Lib.hid hn3
  clear hk3 hn3
  refine (popen_calls ks ns X x HK.out HN.out (U8s_of_mem BK.out) (U8s_of_mem BN.out) (by have := HXS.out; have := HSZ.out; omega) (by have := HXZ.out; omega) vE vM W3 (rangeAt_below T0.out HB3.out) (rangeAt_below T1.out HB3.out) ((HB3.out.cell (p := ⟨_, 0, none⟩) HGE.out).trans HCE.out) ((HB3.out.cell (p := ⟨_, 0, none⟩) HGM.out).trans HCM.out)).mono ?_
  rw [HOS.out.1, HOS.out.2, str_bI, show errV 0 vE vM = .nilIface from rfl]
  rintro e W4 ⟨rfl, hb4⟩
  have HF4 := Lib.hid (And.intro (HB3.out.trans (hb4.mono HB3.out.size)) (And.intro (HK3.out.below hb4 HK3.out.inside) (HN3.out.below hb4 HN3.out.inside)))
  clear hb4
  go_wp2_with fail
  refine wp_region_class (fun W => Below w.heap.size w W ∧ Whole W w.heap.size 22 (rowI .u8 ks) ∧ Whole W gn 24 (rowI .u8 ns)) (by kernel_rfl) (by kernel_rfl) ⟨(HF4.out.1.trans (below_drawnN (Below.refl _ _) 1)), HF4.out.2.1.drew, HF4.out.2.2.drew⟩ ?_
  refine wpQuiet_step (fun K hK => ?_)
  refine quiet_want (by kernel_rfl) ⟨(.string X), fun W hW => ?_, ?_⟩
  · refine quietAt_val ?_
    go_simp
  go_simp
  refine hK _ ?_
  clear hK K
  refine wpQuiet_step (fun K hK => ?_)
  refine quiet_want (by kernel_rfl) ⟨(.slice (some ⟨w.heap.size, 0, none⟩) 32 32), fun W hW => ?_, ?_⟩
  · refine quietAt_val ?_
    go_simp
  go_simp
  refine hK _ ?_
  clear hK K
  refine wpQuiet_step (fun K hK => ?_)
  refine quiet_want (by kernel_rfl) ⟨(.string (strOfNums ks)), fun W hW => ?_, ?_⟩
  · refine quietAt_val ?_
    have hrun := run_convert_bytes_arg (P := Tryd.prog) W 28 5 Tryd.underlying28 Tryd.underlying5 w.heap.size 0 32 32 ks HK.out (whole_sliced W _ _ ks 32 hW.2.1 HK.out) 9 Tryd.underlying9
    go_simp
  go_simp
  refine hK _ ?_
  clear hK K
  refine wpQuiet_step (fun K hK => ?_)
  refine quiet_want (by kernel_rfl) ⟨(.slice (some ⟨gn, 0, none⟩) 12 12), fun W hW => ?_, ?_⟩
  · refine quietAt_val ?_
    go_simp
  go_simp
  refine hK _ ?_
  clear hK K
  refine wpQuiet_step (fun K hK => ?_)
  refine quiet_want (by kernel_rfl) ⟨(.string (strOfNums ns)), fun W hW => ?_, ?_⟩
  · refine quietAt_val ?_
    have hrun := run_convert_bytes_arg (P := Tryd.prog) W 28 5 Tryd.underlying28 Tryd.underlying5 gn 0 12 12 ns HN.out (whole_sliced W _ _ ns 12 hW.2.2 HN.out) 9 Tryd.underlying9
    go_simp
  go_simp
  refine hK _ ?_
  clear hK K
  refine wpQuiet_step (fun K hK => ?_)
  refine quiet_want (by kernel_rfl) ⟨(.string s), fun W hW => ?_, ?_⟩
  · refine quietAt_val ?_
    go_simp
  go_simp
  refine hK _ ?_
  clear hK K
  refine wpQuiet_step (fun K hK => ?_)
  refine quiet_want (by kernel_rfl) ⟨(.string x), fun W hW => ?_, ?_⟩
  · refine quietAt_val ?_
    go_simp
  go_simp
  refine hK _ ?_
  clear hK K
  refine wpQuiet_step (fun K hK => ?_)
  refine quiet_want (by kernel_rfl) ⟨(.string X), fun W hW => ?_, ?_⟩
  · refine quietAt_call (f := 24) (args := (#[.string (strOfNums ks), .string (strOfNums ns), .string s, .string x])) (by go_simp) ?_
    refine (rseal_calls (strOfNums ks) (strOfNums ns) s x (key_of ks HK.out BK.out).2 (by rw [str_size, HN.out]) (by have := HSZ.out; omega) (by have := HXZ.out; omega) W).mono ?_
    rw [(key_of ks HK.out BK.out).1, bI_str BN.out, ← HX.out]
    rintro e W' ⟨rfl, hb⟩
    exact ⟨rfl, hW.1.trans (hb.mono hW.1.size), hW.2.1.below hb hW.2.1.inside, hW.2.2.below hb hW.2.2.inside⟩
  go_simp
  refine hK _ ?_
  clear hK K
  refine wpQuiet_step (fun K hK => ?_)
  refine quiet_want (by kernel_rfl) ⟨(.bool true), fun W hW => ?_, ?_⟩
  · refine quietAt_val ?_
    go_simp
  go_simp
  refine hK _ ?_
  clear hK K
  refine wpQuiet_step (fun K hK => ?_)
  refine quiet_want (by kernel_rfl) ⟨(.bool true), fun W hW => ?_, ?_⟩
  · refine quietAt_val ?_
    go_simp
  go_simp
  refine hK _ ?_
  clear hK K
  refine wpQuiet_step (fun K hK => ?_)
  refine quiet_want (by kernel_rfl) ⟨(.string s), fun W hW => ?_, ?_⟩
  · refine quietAt_val ?_
    go_simp
  go_simp
  refine hK _ ?_
  clear hK K
  refine wpQuiet_step (fun K hK => ?_)
  refine quiet_want (by kernel_rfl) ⟨(.string s), fun W hW => ?_, ?_⟩
  · refine quietAt_val ?_
    go_simp
  go_simp
  refine hK _ ?_
  clear hK K
  refine wpQuiet_step (fun K hK => ?_)
  refine quiet_want (by kernel_rfl) ⟨(.bool true), fun W hW => ?_, ?_⟩
  · refine quietAt_val ?_
    go_simp
  go_simp
  refine hK _ ?_
  clear hK K
  refine wpQuiet_step (fun K hK => ?_)
  refine quiet_want (by kernel_rfl) ⟨(.bool true), fun W hW => ?_, ?_⟩
  · refine quietAt_val ?_
    go_simp
  go_simp
  refine hK _ ?_
  clear hK K
  refine wpQuiet_step (fun K hK => ?_)
  refine quiet_want (by kernel_rfl) ⟨(.bool true), fun W hW => ?_, ?_⟩
  · refine quietAt_val ?_
    go_simp
  go_simp
  refine hK _ ?_
  clear hK K
  refine wpQuiet_step (fun K hK => ?_)
  refine quiet_want (by kernel_rfl) ⟨(.nilIface), fun W hW => ?_, ?_⟩
  · refine quietAt_val ?_
    go_simp
  go_simp
  refine hK _ ?_
  clear hK K
  refine wpQuiet_step (fun K hK => ?_)
  refine quiet_want (by kernel_rfl) ⟨(.bool true), fun W hW => ?_, ?_⟩
  · refine quietAt_val ?_
    go_simp
  go_simp
  refine hK _ ?_
  clear hK K
  refine wpQuiet_step (fun K hK => ?_)
  refine quiet_want (by kernel_rfl) ⟨(.bool true), fun W hW => ?_, ?_⟩
  · refine quietAt_val ?_
    go_simp
  go_simp
  refine hK _ ?_
  clear hK K
  refine wpQuiet_step (fun K hK => ?_)
  refine quiet_want (by kernel_rfl) ⟨(.bool true), fun W hW => ?_, ?_⟩
  · refine quietAt_val ?_
    go_simp
  go_simp
  refine hK _ ?_
  clear hK K
  refine wpQuiet_step (fun K hK => ?_)
  refine quiet_want (by kernel_rfl) ⟨(.string X), fun W hW => ?_, ?_⟩
  · refine quietAt_val ?_
    go_simp
  go_simp
  refine hK _ ?_
  clear hK K
  refine wpQuiet_step (fun K hK => ?_)
  refine quiet_want (by kernel_rfl) ⟨(.int .i64 X.size), fun W hW => ?_, ?_⟩
  · refine quietAt_val ?_
    go_simp
  go_simp
  refine hK _ ?_
  clear hK K
  refine wpQuiet_step (fun K hK => ?_)
  refine quiet_want (by kernel_rfl) ⟨(.string s), fun W hW => ?_, ?_⟩
  · refine quietAt_val ?_
    go_simp
  go_simp
  refine hK _ ?_
  clear hK K
  refine wpQuiet_step (fun K hK => ?_)
  refine quiet_want (by kernel_rfl) ⟨(.int .i64 s.size), fun W hW => ?_, ?_⟩
  · refine quietAt_val ?_
    go_simp
  go_simp
  refine hK _ ?_
  clear hK K
  refine wpQuiet_step (fun K hK => ?_)
  refine quiet_want (by kernel_rfl) ⟨(.int .i64 ((s.size : Int) + 16)), fun W hW => ?_, ?_⟩
  · refine quietAt_val ?_
    have hw : IntKind.i64.wrap ((s.size : Int) + 16) = (s.size : Int) + 16 := by have := HSZ.out; rw [IntKind.wrap_i64]; omega
    go_simp
  go_simp
  refine hK _ ?_
  clear hK K
  refine wpQuiet_step (fun K hK => ?_)
  refine quiet_want (by kernel_rfl) ⟨(.bool true), fun W hW => ?_, ?_⟩
  · refine quietAt_val ?_
    have hx : (X.size : Int) = (s.size : Int) + 16 := by have := HXS.out; omega
    go_simp
  go_simp
  refine hK _ ?_
  clear hK K
  refine wpQuiet_step (fun K hK => ?_)
  refine quiet_want (by kernel_rfl) ⟨(.bool true), fun W hW => ?_, ?_⟩
  · refine quietAt_val ?_
    go_simp
  go_simp
  refine hK _ ?_
  clear hK K
  refine wpQuiet_step (fun K hK => ?_)
  refine quiet_want (by kernel_rfl) ⟨(.bool true), fun W hW => ?_, ?_⟩
  · refine quietAt_val ?_
    go_simp
  go_simp
  refine hK _ ?_
  clear hK K
  refine wpQuiet_nil ?_
  intro W5 hF5
  have HF5 := Lib.hid hF5.1
  clear hF5
  go_wp2_with fail
  go_ret
  exact ⟨rfl, HF5.out⟩
end Go.Proofs.YtfoljmpphbhobaaDoor
