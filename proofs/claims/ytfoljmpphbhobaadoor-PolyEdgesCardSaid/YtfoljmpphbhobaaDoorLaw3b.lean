/- The walk of ChachaXors: it answers true. -/
import Derived.Test.YtfoljmpphbhobaaDoorLaw3a
namespace Go.Proofs.YtfoljmpphbhobaaDoor
open Go.RowKit Go.Spk
set_option linter.unusedVariables false
theorem x8_x8 (a b : Int) (ha : 0 ≤ a ∧ a ≤ 255) (hb : 0 ≤ b ∧ b ≤ 255) : x8 (x8 a b) b = a := by
  obtain ⟨m, rfl⟩ := Int.eq_ofNat_of_zero_le ha.1
  obtain ⟨n, rfl⟩ := Int.eq_ofNat_of_zero_le hb.1
  unfold x8
  have hm : m < 2 ^ 8 := by omega
  have hn : n < 2 ^ 8 := by omega
  have hx : m ^^^ n < 2 ^ 8 := Nat.xor_lt_two_pow hm hn
  rw [u8_xor_nat m n (by omega) (by omega), u8_xor_nat (m ^^^ n) n (by omega) (by omega), Nat.xor_assoc, Nat.xor_self, Nat.xor_zero]
theorem stream_bd (ks : List Int) (ctr : Int) (ns : List Int) (n : Nat) : 0 ≤ streamI ks ctr ns n ∧ streamI ks ctr ns n ≤ 255 := by
  unfold streamI
  exact ix_bytes (blockI_mem _ _ _) _
theorem xorI_mem (ks : List Int) (ctr : Int) (ns ws : List Int) : ∀ b ∈ xorI ks ctr ns ws, 0 ≤ b ∧ b ≤ 255 := by
  intro b hb
  rw [xorI_map] at hb
  obtain ⟨i, _, rfl⟩ := List.mem_map.1 hb
  exact x8_0 _ _
theorem xorI_xorI (ks : List Int) (ctr : Int) (ns ws : List Int) (hw : U8s ws) : xorI ks ctr ns (xorI ks ctr ns ws) = ws := by
  refine ix_ext (by rw [xorI_length, xorI_length]) fun i hi => ?_
  rw [xorI_length, xorI_length] at hi
  rw [ix_xorI _ _ _ _ _ (by rw [xorI_length]; exact hi), ix_xorI _ _ _ _ _ hi, x8_x8 _ _ (hw i) (stream_bd _ _ _ _)]
/-- The nonce that the law makes: the length, and the key's first byte. -/
def nonceX (n : Nat) (k : Int) : List Int := [(n : Int) % 256, 0, 0, 0, 0, k, 0, 0, 0, 0, 0, 0]
theorem nonceX_mem (n : Nat) (k : Int) (hk : 0 ≤ k ∧ k ≤ 255) : ∀ b ∈ nonceX n k, 0 ≤ b ∧ b ≤ 255 := by
  intro b hb
  simp only [nonceX, List.mem_cons, List.not_mem_nil, or_false] at hb
  rcases hb with rfl | rfl | rfl | rfl | rfl | rfl | rfl | rfl | rfl | rfl | rfl | rfl <;> omega
set_option maxRecDepth 100000 in
set_option maxHeartbeats 1000000 in
theorem xors_calls (ks : List Int) (ctr : Int) (s0 : ByteArray) (hk : ks.length = 32) (bk : ∀ b ∈ ks, 0 ≤ b ∧ b ≤ 255) (hc0 : 0 ≤ ctr) (hc1 : ctr < 4294967296) (w : World)
   (t0 : w.rangeAt 0 0 (beginI.map (Value.int .u32))) (t1 : w.rangeAt 1 0 orderC) :
    Calls Tryd.prog 4 #[.agg (rowI .u8 ks), .int .u32 ctr, .string s0] w fun e w' => e = .returned (.bool true) ∧ Below w.heap.size w w' := by
  have T0 := Lib.hid t0; have T1 := Lib.hid t1; clear t0 t1
  have HK := Lib.hid hk; clear hk
  have BK := Lib.hid bk; clear bk
  go_enter Tryd.func4, Tryd.ntmps4
  go_wp2_with fail
  generalize hW1 : w.alloc (Obj.cells (rowI IntKind.u8 ks) 22) = W1
  have hF1 : Below w.heap.size w W1 ∧ Whole W1 w.heap.size 22 (rowI .u8 ks) ∧ w.heap.size < W1.heap.size := by
    subst hW1
    exact ⟨by go_grown, Whole.new rfl rfl, by simp⟩
  clear hW1
  obtain ⟨hB1, hk1, hs1⟩ := hF1
  refine (awake_calls _ (rangeAt_below T0.out hB1) (rangeAt_below T1.out hB1)).mono ?_
  rintro e W2 ⟨rfl, hb2⟩
  have hB2 := hB1.trans (hb2.mono hB1.size)
  have hk2 := hk1.below hb2 hs1
  have hs2 : w.heap.size < W2.heap.size := Nat.lt_of_lt_of_le hs1 hb2.size
  clear hb2 hB1 hk1 hs1 W1
  have e1 : (Tryd.prog.info? 22).map (·.size) = some (rowI .u8 ks).size := by rw [rowI_size, HK.out]; kernel_rfl
  have H1 := Lib.hid e1
  clear e1
  go_wp2_with fail
  refine (cut_calls s0 300 (by omega) _).mono ?_
  rintro e W2' ⟨⟨s, rfl, hcut, hsz⟩, rfl⟩
  clear hcut
  have c0 : W2.cell? ⟨w.heap.size, 0, none⟩ = some (.int .u8 (ix ks 0)) := by rw [hk2.at_, rowI_get .u8 ks 0 (by rw [HK.out]; decide)]
  have hF2 := Lib.hid (And.intro hB2 (And.intro hk2 hs2))
  clear hB2 hk2 hs2
  generalize hnn : nonceX s.size (ix ks 0) = nn
  have hnl : nn.length = 12 := by rw [← hnn]; rfl
  have hnm : ∀ b ∈ nn, 0 ≤ b ∧ b ≤ 255 := by rw [← hnn]; exact nonceX_mem _ _ (ix_bytes BK.out 0)
  have HNN := Lib.hid hnn; have HN := Lib.hid hnl; have BN := Lib.hid hnm
  have e2 : (Tryd.prog.info? 24).map (·.size) = some (rowI .u8 nn).size := by rw [rowI_size, HN.out]; kernel_rfl
  have H2 := Lib.hid e2
  clear e2 hnn hnl hnm
  have HSZ := Lib.hid hsz
  go_wp2_with (refine name_ops (fun W => Below w.heap.size w W ∧ Whole W w.heap.size 22 (rowI .u8 ks) ∧ Whole W W2.heap.size 24 (rowI .u8 nn)) ⟨hF2.out.1.alloc hF2.out.1.size _, hF2.out.2.1.alloc _, Whole.new rfl (by rw [← HNN.out]; rfl)⟩ ?_
               intro W3 hF3
               refine wpList_load_row rfl 22 (.tmp 3) rfl _ rfl 22 (rowI .u8 ks) (0, 0) _ hF3.2.1 Tryd.underlying22 rfl H1.out ?_
               refine wpList_plain rfl (fun K hK => ?_)
               go_simp
               refine hK _ _ ?_
               clear hK K
               refine wpList_load_row rfl 24 (.tmp 7) rfl _ rfl 24 (rowI .u8 nn) (0, 0) _ hF3.2.2 Tryd.underlying24 rfl H2.out ?_
               have HF3 := Lib.hid hF3
               clear hF3)
  refine (xor_calls ks nn ctr s HK.out HN.out (U8s_of_mem BK.out) (U8s_of_mem BN.out) hc0 hc1 (by have := HSZ.out; omega) _ (rangeAt_below T0.out HF3.out.1) (rangeAt_below T1.out HF3.out.1)).mono ?_
  rintro e W4 ⟨rfl, hb4⟩
  have hF4 : Below w.heap.size w W4 ∧ Whole W4 w.heap.size 22 (rowI .u8 ks) ∧ Whole W4 W2.heap.size 24 (rowI .u8 nn) :=
    ⟨HF3.out.1.trans (hb4.mono HF3.out.1.size), HF3.out.2.1.below hb4 HF3.out.2.1.inside, HF3.out.2.2.below hb4 HF3.out.2.2.inside⟩
  generalize hX : strOfNums (xorI ks ctr nn (bI s)) = X
  have hbX : bI X = xorI ks ctr nn (bI s) := by rw [← hX, bI_str (xorI_mem _ _ _ _)]
  have hXX : strOfNums (xorI ks ctr nn (bI X)) = s := by rw [hbX, xorI_xorI _ _ _ _ (U8s_bI s), str_bI]
  have hXs : X.size ≤ 300 := by rw [← bI_length, hbX, xorI_length, bI_length]; exact HSZ.out
  have HX := Lib.hid hX; have HXX := Lib.hid hXX; have HXS := Lib.hid hXs
  have HF4 := Lib.hid hF4
  clear hX hXX hXs hbX hb4 hF4 HF3 hF2 c0 hsz
  generalize W2.heap.size = gn at HF4
  go_wp2_with fail
  refine wp_region_class (fun W => Below w.heap.size w W ∧ Whole W w.heap.size 22 (rowI .u8 ks) ∧ Whole W gn 24 (rowI .u8 nn)) (by kernel_rfl) (by kernel_rfl) ⟨⟨HF4.out.1.os, HF4.out.1.tape, HF4.out.1.output, HF4.out.1.size, HF4.out.1.block⟩, HF4.out.2⟩ ?_
  refine wpQuiet_step (fun K hK => ?_)
  refine quiet_want (by kernel_rfl) ⟨(.string X), fun W hW => ?_, ?_⟩
  · refine quietAt_val ?_
    go_simp
  go_simp
  refine hK _ ?_
  clear hK K
  refine wpQuiet_step (fun K hK => ?_)
  refine quiet_want (by kernel_rfl) ⟨(.slice (some ⟨w.heap.size, 0, none⟩) 32 32), fun W hW => ?_, ?_⟩
  · refine quietAt_val ?_
    go_simp
  go_simp
  refine hK _ ?_
  clear hK K
  refine wpQuiet_step (fun K hK => ?_)
  refine quiet_want (by kernel_rfl) ⟨(.string (strOfNums ks)), fun W hW => ?_, ?_⟩
  · refine quietAt_val ?_
    have hrun := run_convert_bytes_arg (P := Tryd.prog) W 28 5 Tryd.underlying28 Tryd.underlying5 (w.heap.size) 0 32 32 ks HK.out (whole_sliced W _ _ ks 32 hW.2.1 HK.out) 9 Tryd.underlying9
    go_simp
  go_simp
  refine hK _ ?_
  clear hK K
  refine wpQuiet_step (fun K hK => ?_)
  refine quiet_want (by kernel_rfl) ⟨(.int .u32 ctr), fun W hW => ?_, ?_⟩
  · refine quietAt_val ?_
    go_simp
  go_simp
  refine hK _ ?_
  clear hK K
  refine wpQuiet_step (fun K hK => ?_)
  refine quiet_want (by kernel_rfl) ⟨(.int .u64 ctr), fun W hW => ?_, ?_⟩
  · refine quietAt_val ?_
    have hw : IntKind.u64.wrap ctr = ctr := by rw [IntKind.wrap_u64]; omega
    go_simp
  go_simp
  refine hK _ ?_
  clear hK K
  refine wpQuiet_step (fun K hK => ?_)
  refine quiet_want (by kernel_rfl) ⟨(.slice (some ⟨gn, 0, none⟩) 12 12), fun W hW => ?_, ?_⟩
  · refine quietAt_val ?_
    go_simp
  go_simp
  refine hK _ ?_
  clear hK K
  refine wpQuiet_step (fun K hK => ?_)
  refine quiet_want (by kernel_rfl) ⟨(.string (strOfNums nn)), fun W hW => ?_, ?_⟩
  · refine quietAt_val ?_
    have hrun := run_convert_bytes_arg (P := Tryd.prog) W 28 5 Tryd.underlying28 Tryd.underlying5 (gn) 0 12 12 nn HN.out (whole_sliced W _ _ nn 12 hW.2.2 HN.out) 9 Tryd.underlying9
    go_simp
  go_simp
  refine hK _ ?_
  clear hK K
  refine wpQuiet_step (fun K hK => ?_)
  refine quiet_want (by kernel_rfl) ⟨(.string s), fun W hW => ?_, ?_⟩
  · refine quietAt_val ?_
    go_simp
  go_simp
  refine hK _ ?_
  clear hK K
  refine wpQuiet_step (fun K hK => ?_)
  refine quiet_want (by kernel_rfl) ⟨(.string X), fun W hW => ?_, ?_⟩
  · refine quietAt_call (f := 18) (args := (#[.string (strOfNums ks), .int .u64 ctr, .string (strOfNums nn), .string s])) (by go_simp) ?_
    refine (rxor_calls (strOfNums ks) (strOfNums nn) s ctr (by rw [← bI_length, bI_str BK.out, HK.out]) (by rw [← bI_length, bI_str BN.out, HN.out]) hc0 hc1 (by have := HSZ.out; omega) W).mono ?_
    rintro e W' ⟨rfl, hb⟩
    rw [bI_str BK.out, bI_str BN.out, HX.out]
    have hz := hW.1.size
    exact ⟨rfl, hW.1.trans (hb.mono hz), hW.2.1.below hb hW.2.1.inside, hW.2.2.below hb hW.2.2.inside⟩
  go_simp
  refine hK _ ?_
  clear hK K
  refine wpQuiet_step (fun K hK => ?_)
  refine quiet_want (by kernel_rfl) ⟨(.bool true), fun W hW => ?_, ?_⟩
  · refine quietAt_val ?_
    go_simp
  go_simp
  refine hK _ ?_
  clear hK K
  refine wpQuiet_step (fun K hK => ?_)
  refine quiet_want (by kernel_rfl) ⟨(.bool true), fun W hW => ?_, ?_⟩
  · refine quietAt_val ?_
    go_simp
  go_simp
  refine hK _ ?_
  clear hK K
  refine wpQuiet_step (fun K hK => ?_)
  refine quiet_load (by kernel_rfl) 22 (.tmp 3) rfl _ rfl 22 (rowI .u8 ks) _ (fun W hW => hW.2.1) Tryd.underlying22 rfl H1.out ?_
  go_simp
  refine hK _ ?_
  clear hK K
  refine wpQuiet_step (fun K hK => ?_)
  refine quiet_want (by kernel_rfl) ⟨(.int .u32 ctr), fun W hW => ?_, ?_⟩
  · refine quietAt_val ?_
    go_simp
  go_simp
  refine hK _ ?_
  clear hK K
  refine wpQuiet_step (fun K hK => ?_)
  refine quiet_load (by kernel_rfl) 24 (.tmp 7) rfl _ rfl 24 (rowI .u8 nn) _ (fun W hW => hW.2.2) Tryd.underlying24 rfl H2.out ?_
  go_simp
  refine hK _ ?_
  clear hK K
  refine wpQuiet_step (fun K hK => ?_)
  refine quiet_want (by kernel_rfl) ⟨(.string X), fun W hW => ?_, ?_⟩
  · refine quietAt_val ?_
    go_simp
  go_simp
  refine hK _ ?_
  clear hK K
  refine wpQuiet_step (fun K hK => ?_)
  refine quiet_want (by kernel_rfl) ⟨(.string s), fun W hW => ?_, ?_⟩
  · refine quietAt_call (f := 17) (args := (#[.agg (rowI .u8 ks), .int .u32 ctr, .agg (rowI .u8 nn), .string X])) (by go_simp) ?_
    refine (xor_calls ks nn ctr X HK.out HN.out (U8s_of_mem BK.out) (U8s_of_mem BN.out) hc0 hc1 (by have := HXS.out; omega) _ (rangeAt_below T0.out hW.1) (rangeAt_below T1.out hW.1)).mono ?_
    rintro e W' ⟨rfl, hb⟩
    rw [HXX.out]
    have hz := hW.1.size
    exact ⟨rfl, hW.1.trans (hb.mono hz), hW.2.1.below hb hW.2.1.inside, hW.2.2.below hb hW.2.2.inside⟩
  go_simp
  refine hK _ ?_
  clear hK K
  refine wpQuiet_step (fun K hK => ?_)
  refine quiet_want (by kernel_rfl) ⟨(.string s), fun W hW => ?_, ?_⟩
  · refine quietAt_val ?_
    go_simp
  go_simp
  refine hK _ ?_
  clear hK K
  refine wpQuiet_step (fun K hK => ?_)
  refine quiet_want (by kernel_rfl) ⟨(.bool true), fun W hW => ?_, ?_⟩
  · refine quietAt_val ?_
    go_simp
  go_simp
  refine hK _ ?_
  clear hK K
  refine wpQuiet_step (fun K hK => ?_)
  refine quiet_want (by kernel_rfl) ⟨(.bool true), fun W hW => ?_, ?_⟩
  · refine quietAt_val ?_
    go_simp
  go_simp
  refine hK _ ?_
  clear hK K
  refine wpQuiet_step (fun K hK => ?_)
  refine quiet_want (by kernel_rfl) ⟨(.bool true), fun W hW => ?_, ?_⟩
  · refine quietAt_val ?_
    go_simp
  go_simp
  refine hK _ ?_
  clear hK K
  refine wpQuiet_nil ?_
  intro W5 hF5
  go_wp2
  go_ret
  exact ⟨rfl, hF5.1⟩
end Go.Proofs.YtfoljmpphbhobaaDoor
