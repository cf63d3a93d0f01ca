/- The walk of PolyEdges: it answers true. -/
import Derived.Test.YtfoljmpphbhobaaDoorLaw4a
namespace Go.Proofs.YtfoljmpphbhobaaDoor
open Go.RowKit Go.Spk
set_option linter.unusedVariables false
theorem run_one' (W : World) (b : Int) : (convert 28 9 (.slice (some ⟨W.heap.size, 0, none⟩) 1 1)).run Tryd.prog (W.alloc (.cells #[.int .u8 b] 5)) = .ok (.string (strOfNums [b])) (W.alloc (.cells #[.int .u8 b] 5)) := run_one W b
set_option maxRecDepth 100000 in
set_option maxHeartbeats 2000000 in
theorem edges_calls (ks : List Int) (A : Option Addr) (zs : List Int) (cap : Nat) (hz : U8s zs) (hzl : zs.length ≤ maxLen) (hk : ks.length = 32) (bk : ∀ b ∈ ks, 0 ≤ b ∧ b ≤ 255) (vE vM : Value) (w : World) (hR : Rd w A (zs.map (Value.int .u8)))
   (t0 : w.rangeAt 0 0 (beginI.map (Value.int .u32))) (t1 : w.rangeAt 1 0 orderC)
   (cE : w.cell? ⟨2, 0, none⟩ = some vE) (cM : w.cell? ⟨3, 0, none⟩ = some vM) :
    Calls Tryd.prog 7 #[.agg (rowI .u8 ks), .slice A zs.length cap] w fun e w' => e = .returned (.bool true) ∧ Below w.heap.size w w' := by
  have T0 := Lib.hid t0; have T1 := Lib.hid t1; clear t0 t1
  have HGE := Lib.hid (block_lt_of_cell cE); have HGM := Lib.hid (block_lt_of_cell cM); have HCE := Lib.hid cE; have HCM := Lib.hid cM
  clear cE cM
  have H1 := Lib.hid (show (Tryd.prog.info? 22).map (·.size) = some (rowI .u8 ks).size by rw [rowI_size, hk]; kernel_rfl)
  have HK := Lib.hid hk; have BK := Lib.hid bk; have HR := Lib.hid hR; have HZ := Lib.hid hz
  unfold maxLen at hzl
  clear hk bk hR hz
  generalize hn : zs.length = n at hzl
  have HN := Lib.hid hn
  clear hn
  go_enter Tryd.func7, Tryd.ntmps7
  go_wp2_with fail
  generalize hW : w.alloc _ = W0
  have hF0 : Below w.heap.size w W0 ∧ Whole W0 w.heap.size 22 (rowI .u8 ks) := by
    subst hW; exact ⟨by go_grown, Whole.new rfl rfl⟩
  have HB0 := Lib.hid hF0.1; have HK0 := Lib.hid hF0.2
  clear hW hF0
  refine (awake4_calls vE vM W0 (rangeAt_below T0.out HB0.out) (rangeAt_below T1.out HB0.out) ((HB0.out.cell (p := ⟨_, 0, none⟩) HGE.out).trans HCE.out) ((HB0.out.cell (p := ⟨_, 0, none⟩) HGM.out).trans HCM.out)).mono ?_
  rintro e W1 ⟨rfl, hb1⟩
  have HB1 := Lib.hid (HB0.out.trans (hb1.mono HB0.out.size)); have HK1 := Lib.hid (HK0.out.below hb1 HK0.out.inside)
  clear hb1
  go_wp2_with fail
  go_loopw [5, 6] (fun v i wr => ∃ (t : ByteArray) (k : Nat), v = .string t ∧ i = .int .i64 k ∧ k ≤ 8 ∧ k ≤ n ∧ t.size = 16 * k ∧ Below w.heap.size w wr ∧ Whole wr w.heap.size 22 (rowI .u8 ks)) (fun _ i _ => 8 - (intOf i).toNat)
  case atStart => exact ⟨_, 0, rfl, rfl, by omega, by omega, rfl, HB1.out, HK1.out⟩
  case round =>
    obtain ⟨t, k, rfl, rfl, hk8, hkn, hts, hB, hK⟩ := hrel
    have HB := Lib.hid hB; have HKK := Lib.hid hK; have HTS := Lib.hid hts
    clear hB hK
    by_cases h1 : k < 8 ∧ k < n
    · obtain ⟨h8, hnn⟩ := h1
      have i1 : (k : Int) < 8 := by omega
      have i2 : (k : Int) < n := by omega
      obtain ⟨ad, hA, hblk, hcl⟩ := HR.out.at_ (k := k) (by rw [List.length_map, HN.out]; exact hnn)
      subst hA
      have hu := HZ.out k
      obtain ⟨u, hu1⟩ : ∃ u, u = ix zs k := ⟨_, rfl⟩
      have hcl1 : w.cell? (ad.add k) = some (.int .u8 u) := by
        rw [hcl, hu1]
        simp [ix, List.getD, show k < zs.length by rw [HN.out]; exact hnn]
      rw [← hu1] at hu
      have HCL := Lib.hid hcl1; have HBK := Lib.hid hblk
      have e15 := and15 u hu.1 hu.2
      clear hcl hcl1 hu1 hblk hts
      go_wp2_with fail
      go_loopw [5, 22] (fun v i wr => ∃ (t' : ByteArray) (j : Nat), v = .string t' ∧ i = .int .i64 j ∧ j ≤ 16 ∧ t'.size = 16 * k + j ∧ Below w.heap.size w wr ∧ Whole wr w.heap.size 22 (rowI .u8 ks)) (fun _ i _ => 16 - (intOf i).toNat)
      case atStart => exact ⟨t, 0, rfl, rfl, by omega, HTS.out, HB.out, HKK.out⟩
      case round =>
        clear HB HKK
        obtain ⟨t', j, rfl, rfl, hj, hts', hB, hK⟩ := hrel
        have HB := Lib.hid hB; have HKK := Lib.hid hK; have HTS' := Lib.hid hts'
        have cU : wr.cell? (ad.add k) = some (.int .u8 u) := (hB.cell (by rw [add_block]; exact HBK.out)).trans HCL.out
        clear hB hK hts'
        by_cases h2 : j < 16
        · have j1 : (j : Int) < 16 := by omega
          have hone := run_one
          by_cases heq : (j : Int) = u % 16
          · have s1 : (strOfNums [u]).size = 1 := str_size _
            have hcs : t'.size + (strOfNums [u]).size ≤ 1000 := by have := HTS'.out; omega
            have S1 := Lib.hid s1
            clear s1
            go_wp2_with fail
            go_roundw
            case rel => exact ⟨_, j + 1, rfl, by rw [← heq]; go_num, by omega, by rw [ByteArray.size_append, S1.out, HTS'.out]; omega, HB.out.alloc HB.out.size _, HKK.out.alloc _⟩
            case measure => rw [← heq]; simp [intOf]; omega
          · have s1 : (strOfNums [255]).size = 1 := str_size _
            have hcs : t'.size + (strOfNums [255]).size ≤ 1000 := by have := HTS'.out; omega
            have S1 := Lib.hid s1
            clear s1
            go_wp2_with fail
            go_roundw
            case rel => exact ⟨_, j + 1, rfl, by go_num, by omega, by rw [ByteArray.size_append, S1.out, HTS'.out]; omega, HB.out.alloc HB.out.size _, HKK.out.alloc _⟩
            case measure => simp [intOf]; omega
        · obtain rfl : j = 16 := by omega
          go_wp2_with fail
          go_roundw
          case rel => exact ⟨t', k + 1, rfl, by go_num, by omega, by omega, by have := HTS'.out; omega, HB.out, HKK.out⟩
          case measure => simp [intOf]; omega
    · have i1 : ¬ ((k : Int) < n ∧ (k : Int) < 8) := by omega
      clear hts
      by_cases h3 : k < n
      case' pos =>
        have i2 : (k : Int) < n := by omega
        have i3 : ¬ (k : Int) < 8 := by omega
      case' neg =>
        have i2 : ¬ (k : Int) < n := by omega
        have i3 : True := trivial
      all_goals
        clear i1 h1
        have hk1 := HKK.out
        go_wp2_with (first
          | (refine wpList_load_row rfl 22 (.tmp 2) rfl _ rfl 22 (rowI .u8 ks) (0, 0) _ hk1 Tryd.underlying22 rfl H1.out ?_)
          | fail)
        clear hk1
        refine (psum_calls ks t HK.out (U8s_of_mem BK.out) (by have := HTS.out; omega) wr).mono ?_
        rintro e W2 ⟨rfl, hb2⟩
        obtain ⟨P, hP⟩ : ∃ P, P = polyI ks (bI t) := ⟨_, rfl⟩
        have hPl : P.length = 16 := by rw [hP]; exact bytesN_length _ _
        rw [← hP]
        have HS := Lib.hid (show (Tryd.prog.info? 37).map (·.size) = some (rowI .u8 P).size by rw [rowI_size, hPl]; kernel_rfl)
        have HP := Lib.hid hP; have HPL := Lib.hid hPl
        have HB2 := Lib.hid (HB.out.trans (hb2.mono HB.out.size)); have HK2 := Lib.hid (HKK.out.below hb2 HKK.out.inside)
        clear hP hPl hb2
        go_wp2_with (first
          | (refine wpList_store_row rfl 37 (.tmp 9) (.tmp 45) rfl W2.heap.size (rowI .u8 P) rfl rfl 37 _ (heap_alloc_new _ _) HS.out (by rw [rowI_size, HPL.out]; rfl) (rowI_one _ _) ?_)
          | fail)
        refine name_wp (fun W => Below w.heap.size w W ∧ Whole W w.heap.size 22 (rowI .u8 ks) ∧ Whole W W2.heap.size 37 (rowI .u8 P))
          ⟨(HB2.out.alloc HB2.out.size _).grown (only_row _ _ _) (by simp; exact Nat.le_succ_of_le HB2.out.size) (fun k hk => by injection hk with hk; subst hk; exact HB2.out.size), (HK2.out.alloc _).only (only_row _ _ _) (ne_some (by have := HK2.out.inside; omega)), Whole.row (Whole.new (cs' := _) rfl rfl)⟩ ?_
        generalize W2.heap.size = g2
        intro W3 hF3
        refine wp_region_class (fun W => Below w.heap.size w W ∧ Whole W w.heap.size 22 (rowI .u8 ks) ∧ Whole W g2 37 (rowI .u8 P)) (by kernel_rfl) (by kernel_rfl) ⟨(hF3.1.trans (below_drawnN (Below.refl _ _) 1)), hF3.2.1.drew, hF3.2.2.drew⟩ ?_
        clear hF3 W3
        refine wpQuiet_step (fun K hK => ?_)
        refine quiet_want (by kernel_rfl) ⟨(.slice (some ⟨g2, 0, none⟩) 16 16), fun W hW => ?_, ?_⟩
        · refine quietAt_val ?_
          go_simp
        go_simp
        refine hK _ ?_
        clear hK K
        refine wpQuiet_step (fun K hK => ?_)
        refine quiet_want (by kernel_rfl) ⟨(.string (strOfNums P)), fun W hW => ?_, ?_⟩
        · refine quietAt_val ?_
          have hrun := run_convert_bytes_arg (P := Tryd.prog) W 28 5 Tryd.underlying28 Tryd.underlying5 g2 0 16 16 P HPL.out (whole_sliced W _ _ P 16 hW.2.2 HPL.out) 9 Tryd.underlying9
          go_simp
        go_simp
        refine hK _ ?_
        clear hK K
        refine wpQuiet_step (fun K hK => ?_)
        refine quiet_want (by kernel_rfl) ⟨(.slice (some ⟨w.heap.size, 0, none⟩) 32 32), fun W hW => ?_, ?_⟩
        · refine quietAt_val ?_
          go_simp
        go_simp
        refine hK _ ?_
        clear hK K
        refine wpQuiet_step (fun K hK => ?_)
        refine quiet_want (by kernel_rfl) ⟨(.string (strOfNums ks)), fun W hW => ?_, ?_⟩
        · refine quietAt_val ?_
          have hrun := run_convert_bytes_arg (P := Tryd.prog) W 28 5 Tryd.underlying28 Tryd.underlying5 w.heap.size 0 32 32 ks HK.out (whole_sliced W _ _ ks 32 hW.2.1 HK.out) 9 Tryd.underlying9
          go_simp
        go_simp
        refine hK _ ?_
        clear hK K
        refine wpQuiet_step (fun K hK => ?_)
        refine quiet_want (by kernel_rfl) ⟨(.string t), fun W hW => ?_, ?_⟩
        · refine quietAt_val ?_
          go_simp
        go_simp
        refine hK _ ?_
        clear hK K
        refine wpQuiet_step (fun K hK => ?_)
        refine quiet_want (by kernel_rfl) ⟨(.string (strOfNums P)), fun W hW => ?_, ?_⟩
        · refine quietAt_call (f := 21) (args := (#[.string (strOfNums ks), .string t])) (by go_simp) ?_
          refine (rsum_calls (strOfNums ks) t (key_of ks HK.out BK.out).2 (by have := HTS.out; omega) W).mono ?_
          rw [(key_of ks HK.out BK.out).1, ← HP.out]
          rintro e W' ⟨rfl, hb⟩
          exact ⟨rfl, hW.1.trans (hb.mono hW.1.size), hW.2.1.below hb hW.2.1.inside, hW.2.2.below hb hW.2.2.inside⟩
        go_simp
        refine hK _ ?_
        clear hK K
        refine wpQuiet_step (fun K hK => ?_)
        refine quiet_want (by kernel_rfl) ⟨(.bool true), fun W hW => ?_, ?_⟩
        · refine quietAt_val ?_
          go_simp
        go_simp
        refine hK _ ?_
        clear hK K
        refine wpQuiet_step (fun K hK => ?_)
        refine quiet_want (by kernel_rfl) ⟨(.bool true), fun W hW => ?_, ?_⟩
        · refine quietAt_val ?_
          go_simp
        go_simp
        refine hK _ ?_
        clear hK K
        refine wpQuiet_nil ?_
        intro W4 hF4
        have HF4 := Lib.hid hF4.1
        clear hF4
        go_wp2_with fail
        go_ret
        exact ⟨rfl, HF4.out⟩
end Go.Proofs.YtfoljmpphbhobaaDoor
