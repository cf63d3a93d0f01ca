/- The walk of ChachaBlocks: it answers true. -/
import Derived.Test.YtfoljmpphbhobaaDoorLaw3
import Derived.Laws.Bits64
namespace Go.Proofs.YtfoljmpphbhobaaDoor
open Go.RowKit Go.Spk
set_option linter.unusedVariables false
theorem whole_sliced (w : World) (g : Nat) (t : TypeId) (Z : List Int) (n : Nat) (h : Whole w g t (rowI .u8 Z)) (hn : Z.length = n) :
    ∀ q, q < n → w.cell? ⟨g, 0 + q, none⟩ = some (.int .u8 (Z.getD q 0)) := fun q hq => by
  rw [Nat.zero_add, h.at_, rowI_get .u8 Z q (by omega)]; rfl
set_option maxRecDepth 100000 in
set_option maxHeartbeats 1000000 in
theorem blocks_calls (ks ns : List Int) (ctr : Int) (hk : ks.length = 32) (hn : ns.length = 12) (bk : ∀ b ∈ ks, 0 ≤ b ∧ b ≤ 255) (bn : ∀ b ∈ ns, 0 ≤ b ∧ b ≤ 255) (hc0 : 0 ≤ ctr) (hc1 : ctr < 4294967296) (w : World)
   (t0 : w.rangeAt 0 0 (beginI.map (Value.int .u32))) (t1 : w.rangeAt 1 0 orderC) :
    Calls Tryd.prog 3 #[.agg (rowI .u8 ks), .int .u32 ctr, .agg (rowI .u8 ns)] w fun e w' => e = .returned (.bool true) ∧ Below w.heap.size w w' := by
  have T0 := Lib.hid t0; have T1 := Lib.hid t1; clear t0 t1
  have HK := Lib.hid hk; have HN := Lib.hid hn; clear hk hn
  have BK := Lib.hid bk; have BN := Lib.hid bn; clear bk bn
  go_enter Tryd.func3, Tryd.ntmps3
  go_wp2_with fail
  generalize hW1 : (w.alloc (Obj.cells (rowI IntKind.u8 ks) 22)).alloc (Obj.cells (rowI IntKind.u8 ns) 24) = W1
  have hF1 : Below w.heap.size w W1 ∧ Whole W1 w.heap.size 22 (rowI .u8 ks) ∧ Whole W1 (w.heap.size + 1) 24 (rowI .u8 ns) ∧ w.heap.size + 1 < W1.heap.size := by
    subst hW1
    exact ⟨by go_grown, (Whole.new rfl rfl).alloc _, Whole.new (by simp) rfl, by simp⟩
  clear hW1
  obtain ⟨hB1, hk1, hn1, hs1⟩ := hF1
  refine (awake_calls _ (rangeAt_below T0.out hB1) (rangeAt_below T1.out hB1)).mono ?_
  rintro e W2 ⟨rfl, hb2⟩
  have hB2 := hB1.trans (hb2.mono hB1.size)
  have hk2 := hk1.below hb2 (by omega)
  have hn2 := hn1.below hb2 hs1
  have hs2 : w.heap.size + 1 < W2.heap.size := Nat.lt_of_lt_of_le hs1 hb2.size
  clear hb2 hB1 hk1 hn1 hs1 W1
  have e1 : (Tryd.prog.info? 22).map (·.size) = some (rowI .u8 ks).size := by rw [rowI_size, HK.out]; kernel_rfl
  have e2 : (Tryd.prog.info? 24).map (·.size) = some (rowI .u8 ns).size := by rw [rowI_size, HN.out]; kernel_rfl
  have H1 := Lib.hid e1; have H2 := Lib.hid e2
  clear e1 e2
  go_wp2_with (first
    | (refine wpList_load_row rfl 22 (.tmp 3) rfl _ rfl 22 (rowI .u8 ks) (0, 0) _ hk2 Tryd.underlying22 rfl H1.out ?_)
    | (refine wpList_load_row rfl 24 (.tmp 5) rfl _ rfl 24 (rowI .u8 ns) (0, 0) _ hn2 Tryd.underlying24 rfl H2.out ?_)
    | fail)
  refine (block_calls ks ns ctr HK.out HN.out (U8s_of_mem BK.out) (U8s_of_mem BN.out) _ (rangeAt_below T0.out hB2) (rangeAt_below T1.out hB2)).mono ?_
  rintro e W3 ⟨rfl, hb3⟩
  obtain ⟨Z, hZ⟩ : ∃ Z, Z = blockI ks ctr ns := ⟨_, rfl⟩
  have hZl : Z.length = 64 := by rw [hZ]; exact blockI_length _ _ _
  rw [← hZ]
  have HZ := Lib.hid hZ
  have hs3 : (Tryd.prog.info? 26).map (·.size) = some (rowI .u8 Z).size := by rw [rowI_size, hZl]; kernel_rfl
  have H3 := Lib.hid hs3; have HZL := Lib.hid hZl
  clear hs3 hZl hZ
  go_wp2_with (refine wpList_store_row rfl 26 (.tmp 7) (.tmp 13) rfl W3.heap.size (rowI .u8 Z) rfl rfl 26 _ (heap_alloc_new _ _) H3.out (by rw [rowI_size, HZL.out]; rfl) (rowI_one _ _) ?_)
  refine name_wp (fun W => Below w.heap.size w W ∧ Whole W w.heap.size 22 (rowI .u8 ks) ∧ Whole W (w.heap.size + 1) 24 (rowI .u8 ns) ∧ Whole W W3.heap.size 26 (rowI .u8 Z)) ?_ ?_
  · have h1 : Below w.heap.size w W3 := hB2.trans (hb3.mono hB2.size)
    have := hb3.size
    refine ⟨(h1.alloc h1.size _).grown (only_row _ _ _) (by simp; exact Nat.le_succ_of_le h1.size) (fun k hk => by injection hk with hk; subst hk; exact h1.size), ?_, ?_, Whole.row (Whole.new (cs' := _) rfl rfl)⟩
    · exact ((hk2.below hb3 (by omega)).alloc _).only (only_row _ _ _) (ne_some (by omega))
    · exact ((hn2.below hb3 (by omega)).alloc _).only (only_row _ _ _) (ne_some (by omega))
  generalize W3.heap.size = gz
  clear hb3 hk2 hn2 hB2 hs2 W3
  intro W4 hF4
  refine wp_region_class (fun W => Below w.heap.size w W ∧ Whole W w.heap.size 22 (rowI .u8 ks) ∧ Whole W (w.heap.size + 1) 24 (rowI .u8 ns) ∧ Whole W gz 26 (rowI .u8 Z)) (by kernel_rfl) (by kernel_rfl) ⟨⟨hF4.1.os, hF4.1.tape, hF4.1.output, hF4.1.size, hF4.1.block⟩, hF4.2⟩ ?_
  refine wpQuiet_step (fun K hK => ?_)
  refine quiet_want (by kernel_rfl) ⟨(.slice (some ⟨gz, 0, none⟩) 64 64), fun W hW => ?_, ?_⟩
  · refine quietAt_val ?_
    go_simp
  go_simp
  refine hK _ ?_
  clear hK K
  refine wpQuiet_step (fun K hK => ?_)
  refine quiet_want (by kernel_rfl) ⟨(.string (strOfNums Z)), fun W hW => ?_, ?_⟩
  · refine quietAt_val ?_
    have hrun := run_convert_bytes_arg (P := Tryd.prog) W 28 5 Tryd.underlying28 Tryd.underlying5 gz 0 64 64 Z HZL.out (whole_sliced W _ _ Z 64 hW.2.2.2 HZL.out) 9 Tryd.underlying9
    go_simp
  go_simp
  refine hK _ ?_
  clear hK K
  refine wpQuiet_step (fun K hK => ?_)
  refine quiet_want (by kernel_rfl) ⟨(.slice (some ⟨w.heap.size, 0, none⟩) 32 32), fun W hW => ?_, ?_⟩
  · refine quietAt_val ?_
    go_simp
  go_simp
  refine hK _ ?_
  clear hK K
  refine wpQuiet_step (fun K hK => ?_)
  refine quiet_want (by kernel_rfl) ⟨(.string (strOfNums ks)), fun W hW => ?_, ?_⟩
  · refine quietAt_val ?_
    have hrun := run_convert_bytes_arg (P := Tryd.prog) W 28 5 Tryd.underlying28 Tryd.underlying5 w.heap.size 0 32 32 ks HK.out (whole_sliced W _ _ ks 32 hW.2.1 HK.out) 9 Tryd.underlying9
    go_simp
  go_simp
  refine hK _ ?_
  clear hK K
  refine wpQuiet_step (fun K hK => ?_)
  refine quiet_want (by kernel_rfl) ⟨(.int .u32 ctr), fun W hW => ?_, ?_⟩
  · refine quietAt_val ?_
    go_simp
  go_simp
  refine hK _ ?_
  clear hK K
  refine wpQuiet_step (fun K hK => ?_)
  refine quiet_want (by kernel_rfl) ⟨(.int .u64 ctr), fun W hW => ?_, ?_⟩
  · refine quietAt_val ?_
    have hw : IntKind.u64.wrap ctr = ctr := by rw [IntKind.wrap_u64]; omega
    go_simp
  go_simp
  refine hK _ ?_
  clear hK K
  refine wpQuiet_step (fun K hK => ?_)
  refine quiet_want (by kernel_rfl) ⟨(.slice (some ⟨w.heap.size + 1, 0, none⟩) 12 12), fun W hW => ?_, ?_⟩
  · refine quietAt_val ?_
    go_simp
  go_simp
  refine hK _ ?_
  clear hK K
  refine wpQuiet_step (fun K hK => ?_)
  refine quiet_want (by kernel_rfl) ⟨(.string (strOfNums ns)), fun W hW => ?_, ?_⟩
  · refine quietAt_val ?_
    have hrun := run_convert_bytes_arg (P := Tryd.prog) W 28 5 Tryd.underlying28 Tryd.underlying5 (w.heap.size + 1) 0 12 12 ns HN.out (whole_sliced W _ _ ns 12 hW.2.2.1 HN.out) 9 Tryd.underlying9
    go_simp
  go_simp
  refine hK _ ?_
  clear hK K
  refine wpQuiet_step (fun K hK => ?_)
  refine quiet_want (by kernel_rfl) ⟨(.string (strOfNums Z)), fun W hW => ?_, ?_⟩
  · refine quietAt_call (f := 15) (args := (#[.string (strOfNums ks), .int .u64 ctr, .string (strOfNums ns)])) (by go_simp) ?_
    refine (rblock_calls (strOfNums ks) (strOfNums ns) ctr (by rw [← bI_length, bI_str BK.out, HK.out]) (by rw [← bI_length, bI_str BN.out, HN.out]) hc0 (by omega) W).mono ?_
    rintro e W' ⟨rfl, hb⟩
    rw [bI_str BK.out, bI_str BN.out, show ctr % 4294967296 = ctr by omega, ← HZ.out]
    have hz := hW.1.size
    exact ⟨rfl, hW.1.trans (hb.mono hz), hW.2.1.below hb hW.2.1.inside, hW.2.2.1.below hb hW.2.2.1.inside, hW.2.2.2.below hb hW.2.2.2.inside⟩
  go_simp
  refine hK _ ?_
  clear hK K
  refine wpQuiet_step (fun K hK => ?_)
  refine quiet_want (by kernel_rfl) ⟨(.bool true), fun W hW => ?_, ?_⟩
  · refine quietAt_val ?_
    go_simp
  go_simp
  refine hK _ ?_
  clear hK K
  refine wpQuiet_step (fun K hK => ?_)
  refine quiet_want (by kernel_rfl) ⟨(.bool true), fun W hW => ?_, ?_⟩
  · refine quietAt_val ?_
    go_simp
  go_simp
  refine hK _ ?_
  clear hK K
  refine wpQuiet_nil ?_
  intro W5 hF5
  go_wp2
  go_ret
  exact ⟨rfl, hF5.1⟩
end Go.Proofs.YtfoljmpphbhobaaDoor
