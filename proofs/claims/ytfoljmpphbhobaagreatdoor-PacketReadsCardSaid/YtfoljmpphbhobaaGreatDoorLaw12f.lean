/- The walk of PacketReads: it answers true. -/
import Derived.Test.YtfoljmpphbhobaaGreatDoorLaw12d
import Derived.Test.YtfoljmpphbhobaaGreatDoorAs
namespace Go.Proofs.YtfoljmpphbhobaaGreatDoor
open Go.RowKit Go.Spk
set_option linter.unusedVariables false
attribute [local go_sem ↓] Go.wp_at_zero Go.wp_at_succ
set_option maxRecDepth 100000 in
set_option maxHeartbeats 8000000 in
theorem reads_calls (key : List Int) (sealed : Bool) (s0 : ByteArray) (hk : key.length = 32) (bk : U8s key) (E : Nat → Addr) (w : World) (hE : Errs w E) (hET : w.cell? ⟨20, 0, none⟩ = some (rtV 36))
   (t0 : w.rangeAt 21 0 (beginI.map (Value.int .u32))) (t1 : w.rangeAt 22 0 orderC) :
    Calls Tryz.prog 6 #[.agg (rowI .u8 key), .bool sealed, .string s0] w fun e w' => e = .returned (.bool true) ∧ Below w.heap.size w w' := by
  have T0 := Lib.hid t0; have T1 := Lib.hid t1; have HE := Lib.hid hE; have HET := Lib.hid hET
  have H1 := Lib.hid (show (Tryz.prog.info? 25).map (·.size) = some (rowI .u8 key).size by rw [rowI_size, hk]; kernel_rfl)
  have HK := Lib.hid hk; have BK := Lib.hid bk
  clear t0 t1 hE hk bk hET
  go_enter Tryz.func6, Tryz.ntmps6
  go_wp2_with fail
  generalize hW : w.alloc _ = W0
  have hF0 : Below w.heap.size w W0 ∧ Whole W0 w.heap.size 25 (rowI .u8 key) := by
    subst hW; exact ⟨by go_grown, Whole.new rfl rfl⟩
  have HF0 := Lib.hid hF0
  clear hW hF0
  refine (awake12_calls E W0 (HE.out.below HF0.out.1).four (rangeAt_below T0.out HF0.out.1) (rangeAt_below T1.out HF0.out.1)).mono ?_
  rintro e W1 ⟨rfl, hb1⟩
  have HF1 := Lib.hid (And.intro (HF0.out.1.trans (hb1.mono HF0.out.1.size)) (HF0.out.2.below hb1 HF0.out.2.inside))
  clear hb1
  go_wp2_with fail
  refine (cut_calls s0 400 (by decide) _).mono ?_
  rintro e wr' ⟨⟨s, rfl, hcut, hsz⟩, rfl⟩
  have HSZ := Lib.hid hsz
  clear hcut hsz
  obtain ⟨gr, hgr⟩ : ∃ gr, gr = W1.heap.size := ⟨_, rfl⟩
  have hr1 : Whole (W1.alloc (.cells (lineRow 0 false z32 ++ #[.string ⟨#[]⟩, .nilIface]) 44)) w.heap.size 25 (rowI .u8 key) := HF1.out.2.alloc _
  cases sealed
  case' true =>
    go_wp2_with (first
      | (refine wpList_load_row rfl 25 (.tmp 3) rfl _ rfl 25 (rowI .u8 key) (0, 0) _ hr1 Tryz.underlying25 rfl H1.out ?_)
      | fail)
    clear hr1
    rw [← hgr]
    generalize hW : World.alloc W1 _ = W7
    have HF7 := Lib.hid (show Below w.heap.size w W7 ∧ Whole W7 w.heap.size 25 (rowI .u8 key) ∧ Whole W7 gr 44 (lineRow 0 false z32 ++ #[.string ⟨#[]⟩, .nilIface]) ∧ w.heap.size < gr by
      subst hW; subst hgr
      exact ⟨HF1.out.1.alloc HF1.out.1.size _, HF1.out.2.alloc _, Whole.new rfl reader_new, HF1.out.2.inside⟩)
    clear hW hgr
    refine (ropenR_calls gr 0 false z32 key _ _ z32_len HK.out W7 HF7.out.2.2.1).mono ?_
    rintro e W8 ⟨rfl, h8, g8⟩
    have hk8 := HF7.out.2.1.only g8 (ne_some (Nat.ne_of_lt HF7.out.2.2.2))
    have hcv := run_convert_bytes_arg (P := Tryz.prog) W8 33 5 Tryz.underlying33 Tryz.underlying5 w.heap.size 0 32 32 key HK.out (fun q hq => by rw [Nat.zero_add, hk8.int q (by rw [HK.out]; exact hq)]; rfl) 9 Tryz.underlying9
    obtain ⟨B, hB⟩ : ∃ B, B = true := ⟨_, rfl⟩
    obtain ⟨KS, hKS⟩ : ∃ KS, KS = key := ⟨_, rfl⟩
    obtain ⟨K, hK⟩ : ∃ K, K = strOfNums key := ⟨_, rfl⟩
    have HKV := Lib.hid (show K = keyS B KS by subst hB; subst hKS; exact hK)
    have HF := Lib.hid (show Below w.heap.size w W8 ∧ Whole W8 gr 44 (lineRow 0 B KS ++ #[.string ⟨#[]⟩, .nilIface]) ∧ w.heap.size < gr ∧ KS.length = 32 ∧ U8s KS by
      subst hB; subst hKS
      exact ⟨below_some HF7.out.1 g8 (Nat.le_of_lt HF7.out.2.2.2), h8, HF7.out.2.2.2, HK.out, BK.out⟩)
    rw [← hK] at hcv
    clear h8 g8 hk8 hB hKS hK
    go_wp2_with fail
    clear hcv
  case' false =>
    go_wp2_with fail
    clear hr1
    rw [← hgr]
    generalize hW : World.alloc W1 _ = W8
    obtain ⟨B, hB⟩ : ∃ B, B = false := ⟨_, rfl⟩
    obtain ⟨KS, hKS⟩ : ∃ KS, KS = z32 := ⟨_, rfl⟩
    obtain ⟨K, hK⟩ : ∃ K, K = (⟨#[]⟩ : ByteArray) := ⟨_, rfl⟩
    have HKV := Lib.hid (show K = keyS B KS by subst hB; subst hKS; exact hK)
    have HF := Lib.hid (show Below w.heap.size w W8 ∧ Whole W8 gr 44 (lineRow 0 B KS ++ #[.string ⟨#[]⟩, .nilIface]) ∧ w.heap.size < gr ∧ KS.length = 32 ∧ U8s KS by
      subst hB; subst hKS
      subst hW; subst hgr
      exact ⟨HF1.out.1.alloc HF1.out.1.size _, Whole.new rfl reader_new, HF1.out.2.inside, z32_len, z32_u8⟩)
    rw [← hK]
    clear hB hKS hK hW hgr
  all_goals
    refine (feed_w gr 0 B KS ⟨#[]⟩ HF.out.2.2.2.1 W8 HF.out.2.1 s (by have := HSZ.out; show 0 + s.size ≤ _; omega)).mono ?_
    rw [nil_cat]
    rintro e W9 ⟨rfl, h9, g9⟩
    have HF9 := Lib.hid (And.intro (below_some HF.out.1 g9 (Nat.le_of_lt HF.out.2.2.1)) h9)
    clear h9 g9
    go_wp2_with fail
    go_loopw [2, 31] (fun v i wr => ∃ (m : Nat) (S : ByteArray), m ≤ 30 ∧ i = .int .i64 m ∧ v = .string S ∧ S.size ≤ 400 ∧ Below w.heap.size w wr ∧ Whole wr gr 44 (lineRow m B KS ++ #[.string S, .nilIface])) (fun _ i _ => (31 - intOf i).toNat)
    case atStart => exact ⟨0, s, by omega, rfl, rfl, HSZ.out, HF9.out⟩
    case round =>
      obtain ⟨m, S2, hm, rfl, rfl, hS2, hL⟩ := hrel
      have HL := Lib.hid hL; have HS2 := Lib.hid hS2
      clear hL hS2
      by_cases hm8 : m < 30
      · have m1 : (m : Int) < 30 := by omega
        go_wp2_with fail
        rcases readI_cases B KS m (bI S2) with ⟨out, rest, hri, hrest, _, hou⟩ | hri | ⟨ec, hec, hri⟩
        · have HRI := Lib.hid hri
          obtain ⟨O, hO⟩ : ∃ O, O = strOfNums out := ⟨_, rfl⟩
          obtain ⟨RS, hRS⟩ : ∃ RS, RS = strOfNums rest := ⟨_, rfl⟩
          have HRV := Lib.hid (show readV (0, true, out, rest) = .tuple #[.string O, .string RS, .bool true, .int .i64 0] by rw [hO, hRS]; rfl)
          have HRZ := Lib.hid (show RS.size ≤ 400 by
            have h := HS2.out
            rw [hRS, str_size, hrest, List.length_drop, bI_length]; omega)
          have HO := Lib.hid hO; have HRS := Lib.hid hRS
          clear hri hrest hou hO hRS
          refine (show Calls Tryz.prog 17 #[.string S2, .string K, .int .i64 m] wr (fun e w' => e = .returned (.tuple #[.string O, .string RS, .bool true, .int .i64 0]) ∧ Below wr.heap.size wr w') from (by have h := rread_calls B KS m S2 HF.out.2.2.2.1 HF.out.2.2.2.2 (by omega) (by have := HS2.out; omega) wr _ HRI.out; rw [HRV.out, ← HKV.out] at h; exact h)).mono ?_
          rintro e W10 ⟨rfl, hb10⟩
          have HF10 := Lib.hid (show Below w.heap.size w W10 ∧ Whole W10 gr 44 (lineRow m B KS ++ #[.string S2, .nilIface]) from
            ⟨HL.out.1.trans (hb10.mono HL.out.1.size), HL.out.2.below hb10 HL.out.2.inside⟩)
          clear hb10
          go_wp2_with fail
          refine (next_yes gr m B KS S2 E HF.out.2.2.2.1 HF.out.2.2.2.2 (by omega) (by have := HS2.out; omega) W10 (HE.out.below HF10.out.1).four HF10.out.2 (rangeAt_below T0.out HF10.out.1) (rangeAt_below T1.out HF10.out.1) out rest HRI.out).mono ?_
          rintro e W11 ⟨rfl, h11, g11⟩
          rw [← HO.out]
          rw [← HRS.out] at h11
          have HF11 := Lib.hid (And.intro (below_some HF10.out.1 g11 (Nat.le_of_lt HF.out.2.2.1)) h11)
          clear h11 g11
          go_wp2_with fail
          refine (code_nil _).mono ?_
          rintro e w5 ⟨rfl, rfl⟩
          have c34 := (read_cells HF.out.2.2.2.1 HF11.out.2).1
          go_wp2_with fail
          refine (waits_calls gr RS _ c34).mono ?_
          rintro e w7 ⟨rfl, hw⟩
          obtain rfl := hw.symm
          go_wp2_with fail
          go_roundw
          case rel => exact ⟨m + 1, RS, by omega, by go_num, rfl, HRZ.out, HF11.out⟩
          case measure => simp [intOf]; omega
        · have HRI := Lib.hid hri
          have HRV := Lib.hid (show readV (0, false, [], bI S2) = .tuple #[.string ⟨#[]⟩, .string S2, .bool false, .int .i64 0] by unfold readV; simp only [str_bI, nil_str])
          clear hri
          refine (show Calls Tryz.prog 17 #[.string S2, .string K, .int .i64 m] wr (fun e w' => e = .returned (.tuple #[.string ⟨#[]⟩, .string S2, .bool false, .int .i64 0]) ∧ Below wr.heap.size wr w') from (by have h := rread_calls B KS m S2 HF.out.2.2.2.1 HF.out.2.2.2.2 (by omega) (by have := HS2.out; omega) wr _ HRI.out; rw [HRV.out, ← HKV.out] at h; exact h)).mono ?_
          rintro e W10 ⟨rfl, hb10⟩
          have HF10 := Lib.hid (show Below w.heap.size w W10 ∧ Whole W10 gr 44 (lineRow m B KS ++ #[.string S2, .nilIface]) from
            ⟨HL.out.1.trans (hb10.mono HL.out.1.size), HL.out.2.below hb10 HL.out.2.inside⟩)
          clear hb10
          go_wp2_with fail
          refine (next_no gr m B KS S2 E HF.out.2.2.2.1 HF.out.2.2.2.2 (by omega) (by have := HS2.out; omega) W10 (HE.out.below HF10.out.1).four HF10.out.2 (rangeAt_below T0.out HF10.out.1) (rangeAt_below T1.out HF10.out.1) _ _ HRI.out).mono ?_
          rintro e W11 ⟨rfl, hb11⟩
          have HF11 := Lib.hid (show Below w.heap.size w W11 ∧ Whole W11 gr 44 (lineRow m B KS ++ #[.string S2, .nilIface]) from
            ⟨HF10.out.1.trans (hb11.mono HF10.out.1.size), HF10.out.2.below hb11 HF10.out.2.inside⟩)
          clear hb11
          go_wp2_with fail
          refine (code_nil _).mono ?_
          rintro e w5 ⟨rfl, rfl⟩
          have c0 := (line_cells HF11.out.2).1
          have c34 := (read_cells HF.out.2.2.2.1 HF11.out.2).1
          go_wp2_with fail
          refine (waits_calls gr S2 _ c34).mono ?_
          rintro e w7 ⟨rfl, hw⟩
          obtain rfl := hw.symm
          have hwk : IntKind.u64.wrap (m : Int) = (m : Int) := by
            have e : IntKind.u64.wrap (m : Int) = (m : Int) % 18446744073709551616 := by simp [IntKind.wrap, IntKind.bits, IntKind.signed]
            rw [e]; omega
          go_wp2_with fail
          refine (count_calls gr m _ c0).mono ?_
          rintro e w6 ⟨rfl, hw⟩
          obtain rfl := hw.symm
          go_wp2_with fail
          go_ret
          exact ⟨rfl, HF11.out.1⟩
        · have HRI := Lib.hid hri
          have HRV := Lib.hid (show readV ((ec : Int) + 1, false, [], []) = .tuple #[.string ⟨#[]⟩, .string ⟨#[]⟩, .bool false, .int .i64 ((ec : Int) + 1)] from rfl)
          clear hri
          refine (show Calls Tryz.prog 17 #[.string S2, .string K, .int .i64 m] wr (fun e w' => e = .returned (.tuple #[.string ⟨#[]⟩, .string ⟨#[]⟩, .bool false, .int .i64 ((ec : Int) + 1)]) ∧ Below wr.heap.size wr w') from (by have h := rread_calls B KS m S2 HF.out.2.2.2.1 HF.out.2.2.2.2 (by omega) (by have := HS2.out; omega) wr _ HRI.out; rw [HRV.out, ← HKV.out] at h; exact h)).mono ?_
          rintro e W10 ⟨rfl, hb10⟩
          have HF10 := Lib.hid (show Below w.heap.size w W10 ∧ Whole W10 gr 44 (lineRow m B KS ++ #[.string S2, .nilIface]) from
            ⟨HL.out.1.trans (hb10.mono HL.out.1.size), HL.out.2.below hb10 HL.out.2.inside⟩)
          clear hb10
          go_wp2_with fail
          refine (next_err gr m B KS S2 E HF.out.2.2.2.1 HF.out.2.2.2.2 (by omega) (by have := HS2.out; omega) W10 (HE.out.below HF10.out.1).four HF10.out.2 (rangeAt_below T0.out HF10.out.1) (rangeAt_below T1.out HF10.out.1) ec HRI.out).mono ?_
          rintro e W11 ⟨pF, rfl, h11, g11, _, p11⟩
          have HF11 := Lib.hid (And.intro (below_some HF10.out.1 g11 (Nat.le_of_lt HF.out.2.2.1)) h11)
          have HPF := Lib.hid p11
          clear h11 g11 p11
          unfold faultV
          go_wp2_with fail
          refine (code_fault E ec hec pF 0 W11 (HE.out.below HF11.out.1) (by rw [HPF.out.at_]; rfl)).mono ?_
          rintro e w5 ⟨rfl, rfl⟩
          have hne : ¬ (ec : Int) + 1 = 0 := by omega
          go_wp2_with fail
          refine (feed_old gr m B KS ⟨#[]⟩ _ _ _ HF.out.2.2.2.1 W11 HF11.out.2).mono ?_
          rintro e w8 ⟨rfl, hw⟩
          obtain rfl := hw.symm
          go_wp2_with fail
          refine (next_old gr m B KS ⟨#[]⟩ _ _ HF.out.2.2.2.1 W11 HF11.out.2).mono ?_
          rintro e W12 ⟨rfl, hb12⟩
          have HF12 := Lib.hid (show Below w.heap.size w W12 ∧ Whole W12 gr 44 (lineRow m B KS ++ #[.string ⟨#[]⟩, faultV pF]) ∧ Whole W12 pF 90 #[.string packetS, errI (E ec)] from
            ⟨HF11.out.1.trans (hb12.mono HF11.out.1.size), HF11.out.2.below hb12 HF11.out.2.inside, HPF.out.below hb12 HPF.out.inside⟩)
          clear hb12
          go_wp2_with fail
          refine (code_fault E ec hec pF 0 W12 (HE.out.below HF12.out.1) (by rw [HF12.out.2.2.at_]; rfl)).mono ?_
          rintro e w5 ⟨rfl, rfl⟩
          have c0 := (line_cells HF12.out.2.1).1
          have c34 := (read_cells HF.out.2.2.2.1 HF12.out.2.1).1
          have hz : (⟨#[]⟩ : ByteArray).size = 0 := rfl
          go_wp2_with fail
          refine (waits_calls gr ⟨#[]⟩ _ c34).mono ?_
          rintro e w7 ⟨rfl, hw⟩
          obtain rfl := hw.symm
          have hwk : IntKind.u64.wrap (m : Int) = (m : Int) := by
            have e : IntKind.u64.wrap (m : Int) = (m : Int) % 18446744073709551616 := by simp [IntKind.wrap, IntKind.bits, IntKind.signed]
            rw [e]; omega
          go_wp2_with fail
          refine (count_calls gr m _ c0).mono ?_
          rintro e w6 ⟨rfl, hw⟩
          obtain rfl := hw.symm
          go_wp2_with fail
          refine (where_fault pF ⟨#[112, 97, 99, 107, 101, 116]⟩ (errI (E ec)) W12 HF12.out.2.2 ((HF12.out.1.cell (p := ⟨20, 0, none⟩) (block_lt_of_cell HET.out)).trans HET.out)).mono ?_
          rintro e W13 ⟨rfl, hb13⟩
          have HB13 := Lib.hid (HF12.out.1.trans (hb13.mono HF12.out.1.size))
          clear hb13
          go_wp2_with fail
          go_ret
          exact ⟨rfl, HB13.out⟩
      · have m1 : ¬ (m : Int) < 30 := by omega
        go_wp2_with fail
        go_ret
        exact ⟨rfl, HL.out.1⟩
end Go.Proofs.YtfoljmpphbhobaaGreatDoor
