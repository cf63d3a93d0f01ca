/- The walks of poly's mark and Seal. -/
import Derived.Test.YtfoljmpphbhobaaDoorPol5
import Derived.Laws.Cover3
namespace Go.Proofs.YtfoljmpphbhobaaDoor
open Go.RowKit Go.Spk
set_option linter.unusedVariables false
theorem take_part (Z : List Int) (n : Nat) (j : Nat) (v : Value) (h : (rowI .u8 (Z.take n))[j]? = some v) : (rowI .u8 Z)[j]? = some v := by
  have hj : j < (Z.take n).length := by
    have := (Array.getElem?_eq_some_iff.1 h).1
    rwa [rowI_size] at this
  rw [rowI_get .u8 _ j hj] at h
  rw [List.length_take] at hj
  rw [rowI_get .u8 _ j (by omega), ← h]
  congr 2
  unfold ix
  simp [List.getD, show j < n by omega]
set_option maxRecDepth 100000 in
set_option maxHeartbeats 2000000 in
theorem pmark_calls (ks ns : List Int) (sealed extra : ByteArray) (hk : ks.length = 32) (hn : ns.length = 12) (bk : U8s ks) (bn : U8s ns) (hs : sealed.size ≤ 1000000) (he : extra.size ≤ 1000000) (w : World)
   (t0 : w.rangeAt 0 0 (beginI.map (Value.int .u32))) (t1 : w.rangeAt 1 0 orderC) :
    Calls Tryd.prog 55 #[.agg (rowI .u8 ks), .agg (rowI .u8 ns), .string sealed, .string extra] w
      fun e w' => e = .returned (.string (strOfNums (markI ks ns (bI sealed) (bI extra)))) ∧ Below w.heap.size w w' := by
  have T0 := Lib.hid t0; have T1 := Lib.hid t1; clear t0 t1
  have H1 := Lib.hid (show (Tryd.prog.info? 22).map (·.size) = some (rowI .u8 ks).size by rw [rowI_size, hk]; kernel_rfl)
  have H2 := Lib.hid (show (Tryd.prog.info? 24).map (·.size) = some (rowI .u8 ns).size by rw [rowI_size, hn]; kernel_rfl)
  have HK := Lib.hid hk; have HN := Lib.hid hn; have BK := Lib.hid bk; have BN := Lib.hid bn
  clear hk hn bk bn
  obtain ⟨M, hM⟩ : ∃ M, M = markI ks ns (bI sealed) (bI extra) := ⟨_, rfl⟩
  have hMl : M.length = 16 := by rw [hM]; exact markI_length _ _ _ _
  have H5 := Lib.hid (show (Tryd.prog.info? 37).map (·.size) = some (rowI .u8 M).size by rw [rowI_size, hMl]; kernel_rfl)
  rw [← hM]
  have HM := Lib.hid hM; have HML := Lib.hid hMl
  clear hM hMl
  go_enter Tryd.func55, Tryd.ntmps55
  have hk0 : Whole ((w.alloc (.cells (rowI .u8 ks) 22)).alloc (.cells (rowI .u8 ns) 24)) w.heap.size 22 (rowI .u8 ks) := (Whole.new rfl rfl).alloc _
  have hn0 : Whole ((w.alloc (.cells (rowI .u8 ks) 22)).alloc (.cells (rowI .u8 ns) 24)) (w.heap.size + 1) 24 (rowI .u8 ns) := Whole.new (by simp) rfl
  go_wp2_with (first
    | (refine wpList_load_row rfl 22 (.tmp 4) rfl _ rfl 22 (rowI .u8 ks) (0, 0) _ hk0 Tryd.underlying22 rfl H1.out ?_)
    | (refine wpList_load_row rfl 24 (.tmp 5) rfl _ rfl 24 (rowI .u8 ns) (0, 0) _ hn0 Tryd.underlying24 rfl H2.out ?_)
    | fail)
  generalize hW : (w.alloc _).alloc _ = W0
  have hB0 : Below w.heap.size w W0 := by subst hW; go_grown
  clear hW hk0 hn0
  have HB0 := Lib.hid hB0
  clear hB0
  refine (block_calls ks ns 0 HK.out HN.out BK.out BN.out W0 (rangeAt_below T0.out HB0.out) (rangeAt_below T1.out HB0.out)).mono ?_
  rintro e W1 ⟨rfl, hb1⟩
  obtain ⟨Z, hZ⟩ : ∃ Z, Z = blockI ks 0 ns := ⟨_, rfl⟩
  have hZl : Z.length = 64 := by rw [hZ]; exact blockI_length _ _ _
  have hZm : ∀ b ∈ Z, 0 ≤ b ∧ b ≤ 255 := by rw [hZ]; exact blockI_mem _ _ _
  rw [← hZ]
  have H3 := Lib.hid (show (Tryd.prog.info? 26).map (·.size) = some (rowI .u8 Z).size by rw [rowI_size, hZl]; kernel_rfl)
  have H4 := Lib.hid (show (Tryd.prog.info? 22).map (·.size) = some (rowI .u8 (Z.take 32)).size by rw [rowI_size, List.length_take, hZl]; kernel_rfl)
  have HZL := Lib.hid hZl; have HZ := Lib.hid hZ; have HZM := Lib.hid hZm
  have HB1 := Lib.hid (HB0.out.trans (hb1.mono HB0.out.size))
  clear hZl hZ hZm hb1
  go_wp2_with (refine wpList_store_row rfl 26 (.tmp 9) (.tmp 13) rfl W1.heap.size (rowI .u8 Z) rfl rfl 26 _ (heap_alloc_new _ _) H3.out (by rw [rowI_size, HZL.out]; rfl) (rowI_one _ _) ?_)
  refine name_wp (fun W => Below w.heap.size w W ∧ Whole W W1.heap.size 26 (rowI .u8 Z)) ⟨(HB1.out.alloc HB1.out.size _).grown (only_row _ _ _) (by simp; exact Nat.le_succ_of_le HB1.out.size) (fun k hk => by injection hk with hk; subst hk; exact HB1.out.size), Whole.row (Whole.new (cs' := _) rfl rfl)⟩ ?_
  generalize W1.heap.size = g9
  intro W2 ⟨hB2, hz2⟩
  have HB2 := Lib.hid hB2; have HZ2 := Lib.hid hz2
  clear hB2 hz2 HB1
  obtain ⟨E, hE⟩ : ∃ E, E = strOfNums (fillI (bI extra)) := ⟨_, rfl⟩
  obtain ⟨F, hF⟩ : ∃ F, F = strOfNums (fillI (bI sealed)) := ⟨_, rfl⟩
  obtain ⟨X, hX⟩ : ∃ X, X = strOfNums (bytesN extra.size 8) := ⟨_, rfl⟩
  obtain ⟨V, hV⟩ : ∃ V, V = strOfNums (bytesN sealed.size 8) := ⟨_, rfl⟩
  have hEs : E.size ≤ 1000015 := by rw [hE, str_size, fillI_length, bI_length]; unfold padN; omega
  have hFs : F.size ≤ 1000015 := by rw [hF, str_size, fillI_length, bI_length]; unfold padN; omega
  have hXs : X.size = 8 := by rw [hX, str_size, bytesN_length]
  have hVs : V.size = 8 := by rw [hV, str_size, bytesN_length]
  have hall : bI (E ++ F ++ X ++ V) = allI (bI sealed) (bI extra) := by
    rw [bI_cat, bI_cat, bI_cat, hE, hF, hX, hV, bI_str (fillI_mem _ (mem_of_U8s (U8s_bI extra))), bI_str (fillI_mem _ (mem_of_U8s (U8s_bI sealed))), bI_str (bytesN_mem _ _), bI_str (bytesN_mem _ _)]
    unfold allI
    rw [bI_length, bI_length]
  have HC1 := Lib.hid (show E.size + F.size ≤ 9223372036854775807 by omega)
  have HC2 := Lib.hid (show E.size + F.size + X.size ≤ 9223372036854775807 by omega)
  have HC3 := Lib.hid (show E.size + F.size + X.size + V.size ≤ 9223372036854775807 by omega)
  have HC4 := Lib.hid (show (E ++ F ++ X ++ V).size ≤ 2000046 by rw [ByteArray.size_append, ByteArray.size_append, ByteArray.size_append]; omega)
  have HE := Lib.hid hE; have HF := Lib.hid hF; have HX := Lib.hid hX; have HV := Lib.hid hV; have HALL := Lib.hid hall
  clear hE hF hX hV hEs hFs hXs hVs hall
  refine wp_region_loud 17 (Mk W2 37) none (by kernel_rfl) (by kernel_rfl) (Mk.start _ _) ?_
  refine wpHead_step (fun K hK => ?_)
  refine head_want (by kernel_rfl) ⟨(.slice (some ⟨g9, 0, none⟩) 32 64), fun s W hW => ?_, ?_⟩
  · have hW := Mk.base hW
    refine quietAt_val ?_
    go_simp
  go_simp
  refine hK _ ?_
  clear hK K
  refine wpHead_step (fun K hK => ?_)
  refine head_want (by kernel_rfl) ⟨(.pointer (some ⟨g9, 0, none⟩)), fun s W hW => ?_, ?_⟩
  · have hW := Mk.base hW
    refine quietAt_val ?_
    have hat := run_arrayAt (P := Tryd.prog) W 22 5 32 (some ⟨g9, 0, none⟩) 32 64 Tryd.underlying22 (by decide)
    go_simp
  go_simp
  refine hK _ ?_
  clear hK K
  refine wpHead_step (fun K hK => ?_)
  refine head_load_part (by kernel_rfl) 22 (.tmp 15) rfl g9 rfl 26 (rowI .u8 Z) (rowI .u8 (Z.take 32)) _ HZ2.out (take_part Z 32) Tryd.underlying22 rfl H4.out ?_
  go_simp
  refine hK _ ?_
  clear hK K
  refine wpHead_step (fun K hK => ?_)
  refine head_want (by kernel_rfl) ⟨(.string extra), fun s W hW => ?_, ?_⟩
  · have hW := Mk.base hW
    refine quietAt_val ?_
    go_simp
  go_simp
  refine hK _ ?_
  clear hK K
  refine wpHead_step (fun K hK => ?_)
  refine head_want (by kernel_rfl) ⟨(.string E), fun s W hW => ?_, ?_⟩
  · refine head_call (f := 84) (args := (#[.string extra])) (by go_simp) hW ?_
    have hW := Mk.base hW
    rw [HE.out]; exact pfilled_calls extra (by omega) W
  go_simp
  refine hK _ ?_
  clear hK K
  refine wpHead_step (fun K hK => ?_)
  refine head_want (by kernel_rfl) ⟨(.string sealed), fun s W hW => ?_, ?_⟩
  · have hW := Mk.base hW
    refine quietAt_val ?_
    go_simp
  go_simp
  refine hK _ ?_
  clear hK K
  refine wpHead_step (fun K hK => ?_)
  refine head_want (by kernel_rfl) ⟨(.string F), fun s W hW => ?_, ?_⟩
  · refine head_call (f := 84) (args := (#[.string sealed])) (by go_simp) hW ?_
    have hW := Mk.base hW
    rw [HF.out]; exact pfilled_calls sealed (by omega) W
  go_simp
  refine hK _ ?_
  clear hK K
  refine wpHead_step (fun K hK => ?_)
  refine head_want (by kernel_rfl) ⟨(.string (E ++ F)), fun s W hW => ?_, ?_⟩
  · have hW := Mk.base hW
    refine quietAt_val ?_
    have hc := HC1.out
    go_simp
  go_simp
  refine hK _ ?_
  clear hK K
  refine wpHead_step (fun K hK => ?_)
  refine head_want (by kernel_rfl) ⟨(.string extra), fun s W hW => ?_, ?_⟩
  · have hW := Mk.base hW
    refine quietAt_val ?_
    go_simp
  go_simp
  refine hK _ ?_
  clear hK K
  refine wpHead_step (fun K hK => ?_)
  refine head_want (by kernel_rfl) ⟨(.int .i64 extra.size), fun s W hW => ?_, ?_⟩
  · have hW := Mk.base hW
    refine quietAt_val ?_
    go_simp
  go_simp
  refine hK _ ?_
  clear hK K
  refine wpHead_step (fun K hK => ?_)
  refine head_want (by kernel_rfl) ⟨(.string X), fun s W hW => ?_, ?_⟩
  · refine head_call (f := 85) (args := (#[.int .i64 extra.size])) (by go_simp) hW ?_
    have hW := Mk.base hW
    rw [HX.out]; exact pcount_calls extra.size (by omega) W
  go_simp
  refine hK _ ?_
  clear hK K
  refine wpHead_step (fun K hK => ?_)
  refine head_want (by kernel_rfl) ⟨(.string (E ++ F ++ X)), fun s W hW => ?_, ?_⟩
  · have hW := Mk.base hW
    refine quietAt_val ?_
    have hc := HC2.out
    go_simp
  go_simp
  refine hK _ ?_
  clear hK K
  refine wpHead_step (fun K hK => ?_)
  refine head_want (by kernel_rfl) ⟨(.string sealed), fun s W hW => ?_, ?_⟩
  · have hW := Mk.base hW
    refine quietAt_val ?_
    go_simp
  go_simp
  refine hK _ ?_
  clear hK K
  refine wpHead_step (fun K hK => ?_)
  refine head_want (by kernel_rfl) ⟨(.int .i64 sealed.size), fun s W hW => ?_, ?_⟩
  · have hW := Mk.base hW
    refine quietAt_val ?_
    go_simp
  go_simp
  refine hK _ ?_
  clear hK K
  refine wpHead_step (fun K hK => ?_)
  refine head_want (by kernel_rfl) ⟨(.string V), fun s W hW => ?_, ?_⟩
  · refine head_call (f := 85) (args := (#[.int .i64 sealed.size])) (by go_simp) hW ?_
    have hW := Mk.base hW
    rw [HV.out]; exact pcount_calls sealed.size (by omega) W
  go_simp
  refine hK _ ?_
  clear hK K
  refine wpHead_step (fun K hK => ?_)
  refine head_want (by kernel_rfl) ⟨(.string (E ++ F ++ X ++ V)), fun s W hW => ?_, ?_⟩
  · have hW := Mk.base hW
    refine quietAt_val ?_
    have hc := HC3.out
    go_simp
  go_simp
  refine hK _ ?_
  clear hK K
  refine wpHead_step (fun K hK => ?_)
  refine head_want (by kernel_rfl) ⟨(.agg (rowI .u8 M)), fun s W hW => ?_, ?_⟩
  · refine head_call (f := 20) (args := (#[.agg (rowI .u8 (Z.take 32)), .string (E ++ F ++ X ++ V)])) (by go_simp) hW ?_
    have hW := Mk.base hW
    have h := psum_calls (Z.take 32) (E ++ F ++ X ++ V) (by rw [List.length_take, HZL.out]; rfl) (U8s_take (U8s_of_mem HZM.out) _) (by have := HC4.out; omega) W
    rw [HALL.out, HZ.out, show polyI ((blockI ks 0 ns).take 32) (allI (bI sealed) (bI extra)) = markI ks ns (bI sealed) (bI extra) from rfl, ← HM.out, ← HZ.out] at h
    exact h
  go_simp
  refine hK _ ?_
  clear hK K
  refine wpHead_nil ?_
  refine loud_row (.tmp 30) 10 (rowI .u8 (List.replicate 16 0)) (rowI .u8 M) (by kernel_rfl) rfl (fun W => by go_simp; rfl) (fun p => by kernel_rfl) rfl rfl (fun p => by rfl) (fun p => by rfl) H5.out (by rw [rowI_size, rowI_size, HML.out]; rfl) (rowI_one _ _) (fun p10 => ?_)
  intro W3 ⟨hB3, hp3, hw3⟩
  have hcl : ∀ q, q < 16 → W3.cell? ⟨p10, 0 + q, none⟩ = some (.int .u8 (M.getD q 0)) := fun q hq => by
    rw [Nat.zero_add, hw3.at_, rowI_get .u8 _ q (by rw [HML.out]; exact hq)]; rfl
  have hrun := run_convert_bytes_arg (P := Tryd.prog) W3 28 5 Tryd.underlying28 Tryd.underlying5 p10 0 16 16 M HML.out hcl 9 Tryd.underlying9
  have HB3 := Lib.hid (HB2.out.trans (hB3.mono HB2.out.size))
  clear hcl hB3 hp3 hw3
  go_wp2_with fail
  go_ret
  exact ⟨rfl, HB3.out⟩
end Go.Proofs.YtfoljmpphbhobaaDoor
