/- The walk of poly's Open. -/
import Derived.Test.YtfoljmpphbhobaaDoorPol7
import Derived.Deep.QuietTactic
import Derived.BigQuiet
namespace Go.Proofs.YtfoljmpphbhobaaDoor
open Go.RowKit Go.Spk
set_option linter.unusedVariables false
/-- The error of a number: 2, 5, or none. -/
def errV (c : Int) (vE vM : Value) : Value := if c = 2 then vE else if c = 5 then vM else .nilIface
theorem open_cases (ks ns : List Int) (s extra : ByteArray) (n : Nat) (hn : s.size = n + 16) (A T : ByteArray) (hA : A = s.extract 0 n) (hT : T = s.extract n s.size) :
    openS ks ns (bI s) (bI extra) = (if strOfNums (markI ks ns (bI A) (bI extra)) = T then xorI ks 1 ns (bI A) else []) ∧
    openC ks ns (bI s) (bI extra) = (if strOfNums (markI ks ns (bI A) (bI extra)) = T then 0 else 5) := by
  have bA : bI A = (bI s).take n := by rw [hA]; simp [bI]
  have bT : bI T = (bI s).drop n := by rw [hT, bI_cut]
  have hl : ¬ s.size < 16 := by omega
  have hfit : fitsI ks ns (bI s) (bI extra) = decide (strOfNums (markI ks ns (bI A) (bI extra)) = T) := by
    unfold fitsI
    rw [bI_length, show s.size - 16 = n by omega, ← bA, ← bT]
    rw [Bool.eq_iff_iff]
    simp only [beq_iff_eq, decide_eq_true_eq]
    constructor
    · intro h; rw [h, str_bI]
    · intro h; rw [← h, bI_str (markI_mem _ _ _ _)]
  constructor
  · unfold openS; rw [bI_length, if_neg hl, hfit, show s.size - 16 = n by omega, ← bA]; simp only [decide_eq_true_eq]
  · unfold openC; rw [bI_length, if_neg hl, hfit]; simp only [decide_eq_true_eq]
set_option maxRecDepth 100000 in
set_option maxHeartbeats 2000000 in
theorem popen_calls (ks ns : List Int) (s extra : ByteArray) (hk : ks.length = 32) (hn : ns.length = 12) (bk : U8s ks) (bn : U8s ns) (hs : s.size ≤ 1000000) (he : extra.size ≤ 1000000) (vE vM : Value) (w : World)
   (t0 : w.rangeAt 0 0 (beginI.map (Value.int .u32))) (t1 : w.rangeAt 1 0 orderC)
   (cE : w.cell? ⟨2, 0, none⟩ = some vE) (cM : w.cell? ⟨3, 0, none⟩ = some vM) :
    Calls Tryd.prog 23 #[.agg (rowI .u8 ks), .agg (rowI .u8 ns), .string s, .string extra] w
      fun e w' => e = .returned (.tuple #[.string (strOfNums (openS ks ns (bI s) (bI extra))), errV (openC ks ns (bI s) (bI extra)) vE vM]) ∧ Below w.heap.size w w' := by
  have T0 := Lib.hid t0; have T1 := Lib.hid t1; clear t0 t1
  have gE := block_lt_of_cell cE; have gM := block_lt_of_cell cM
  have H1 := Lib.hid (show (Tryd.prog.info? 22).map (·.size) = some (rowI .u8 ks).size by rw [rowI_size, hk]; kernel_rfl)
  have H2 := Lib.hid (show (Tryd.prog.info? 24).map (·.size) = some (rowI .u8 ns).size by rw [rowI_size, hn]; kernel_rfl)
  have HK := Lib.hid hk; have HN := Lib.hid hn; have BK := Lib.hid bk; have BN := Lib.hid bn
  clear hk hn bk bn
  have HGE := Lib.hid gE; have HGM := Lib.hid gM; have HCE := Lib.hid cE; have HCM := Lib.hid cM
  clear gE gM cE cM
  by_cases hl : s.size < 16
  · have i1 : (s.size : Int) - 16 < 0 := by omega
    have e1 : openS ks ns (bI s) (bI extra) = [] := by unfold openS; rw [bI_length, if_pos hl]
    have e2 : openC ks ns (bI s) (bI extra) = 2 := by unfold openC; rw [bI_length, if_pos hl]
    rw [e1, e2, nil_str, show errV 2 vE vM = vE from rfl]
    clear e1 e2
    have cE : ((w.alloc (.cells (rowI .u8 ks) 22)).alloc (.cells (rowI .u8 ns) 24)).cell? ⟨2, 0, none⟩ = some vE :=
      ((((Below.refl _ w).alloc (Nat.le_refl _) _).alloc (by simp) _).cell (p := ⟨2, 0, none⟩) HGE.out).trans HCE.out
    go_enter Tryd.func23, Tryd.ntmps23
    go_wp2_with fail
    generalize hW : (w.alloc _).alloc _ = W0 at *
    have hB0 : Below w.heap.size w W0 := by subst hW; go_grown
    have HB0 := Lib.hid hB0
    clear hW hB0
    go_quiet (fail)
    go_wp2_with fail
    go_ret2
    exact ⟨rfl, below_drawnN HB0.out _⟩
  · have i1 : ¬ (s.size : Int) - 16 < 0 := by omega
    obtain ⟨n, hnn⟩ : ∃ n, s.size = n + 16 := ⟨s.size - 16, by omega⟩
    have i2 : (s.size : Int) - 16 = n := by omega
    have i3 : (n : Int) ≤ s.size := by omega
    obtain ⟨A, hA⟩ : ∃ A, A = s.extract 0 n := ⟨_, rfl⟩
    obtain ⟨T, hT⟩ : ∃ T, T = s.extract n s.size := ⟨_, rfl⟩
    have sA : A.size ≤ 1000000 := by rw [hA]; simp; omega
    have sT : T.size ≤ 1000000000 := by rw [hT]; simp; omega
    obtain ⟨e1, e2⟩ := open_cases ks ns s extra n hnn A T hA hT
    rw [e1, e2]
    obtain ⟨M, hM⟩ : ∃ M, M = strOfNums (markI ks ns (bI A) (bI extra)) := ⟨_, rfl⟩
    rw [← hM]
    obtain ⟨X, hX⟩ : ∃ X, X = strOfNums (xorI ks 1 ns (bI A)) := ⟨_, rfl⟩
    have HA := Lib.hid hA.symm; have HT := Lib.hid hT.symm; have HM := Lib.hid hM; have HX := Lib.hid hX; have SA := Lib.hid sA; have ST := Lib.hid sT
    clear hA hT sA sT hM hX e1 e2 hnn hl
    have ha := HA.out; have ht := HT.out
    by_cases hq : M = T
    · have HEQ := Lib.hid (show decide (T = M) = true by simp [hq])
      rw [if_pos hq, if_pos hq, ← HX.out, show errV 0 vE vM = .nilIface from rfl]
      clear hq
      go_enter Tryd.func23, Tryd.ntmps23
      go_wp2_with fail
      refine name_wp (fun W => Below w.heap.size w W ∧ Whole W w.heap.size 22 (rowI .u8 ks) ∧ Whole W (w.heap.size + 1) 24 (rowI .u8 ns)) ⟨by go_grown, (Whole.new rfl rfl).alloc _, Whole.new (by simp) rfl⟩ ?_
      intro W0 hF0
      refine wp_region_class (fun W => Below w.heap.size w W ∧ Whole W w.heap.size 22 (rowI .u8 ks) ∧ Whole W (w.heap.size + 1) 24 (rowI .u8 ns)) (by kernel_rfl) (by kernel_rfl) ⟨(hF0.1.trans (below_drawnN (Below.refl _ _) 1)), hF0.2.1.drew, hF0.2.2.drew⟩ ?_
      clear hF0 W0
      refine wpQuiet_step (fun K hK => ?_)
      refine quiet_want (by kernel_rfl) ⟨(.string s), fun W hW => ?_, ?_⟩
      · refine quietAt_val ?_
        go_simp
      go_simp
      refine hK _ ?_
      clear hK K
      refine wpQuiet_step (fun K hK => ?_)
      refine quiet_want (by kernel_rfl) ⟨(.int .i64 (n : Int)), fun W hW => ?_, ?_⟩
      · refine quietAt_val ?_
        go_simp
      go_simp
      refine hK _ ?_
      clear hK K
      refine wpQuiet_step (fun K hK => ?_)
      refine quiet_want (by kernel_rfl) ⟨(.string T), fun W hW => ?_, ?_⟩
      · refine quietAt_val ?_
        go_simp
      go_simp
      refine hK _ ?_
      clear hK K
      refine wpQuiet_step (fun K hK => ?_)
      refine quiet_load (by kernel_rfl) 22 (.tmp 4) rfl _ rfl 22 (rowI .u8 ks) _ (fun W hW => hW.2.1) Tryd.underlying22 rfl H1.out ?_
      go_simp
      refine hK _ ?_
      clear hK K
      refine wpQuiet_step (fun K hK => ?_)
      refine quiet_load (by kernel_rfl) 24 (.tmp 5) rfl _ rfl 24 (rowI .u8 ns) _ (fun W hW => hW.2.2) Tryd.underlying24 rfl H2.out ?_
      go_simp
      refine hK _ ?_
      clear hK K
      refine wpQuiet_step (fun K hK => ?_)
      refine quiet_want (by kernel_rfl) ⟨(.string s), fun W hW => ?_, ?_⟩
      · refine quietAt_val ?_
        go_simp
      go_simp
      refine hK _ ?_
      clear hK K
      refine wpQuiet_step (fun K hK => ?_)
      refine quiet_want (by kernel_rfl) ⟨(.int .i64 (n : Int)), fun W hW => ?_, ?_⟩
      · refine quietAt_val ?_
        go_simp
      go_simp
      refine hK _ ?_
      clear hK K
      refine wpQuiet_step (fun K hK => ?_)
      refine quiet_want (by kernel_rfl) ⟨(.string A), fun W hW => ?_, ?_⟩
      · refine quietAt_val ?_
        go_simp
      go_simp
      refine hK _ ?_
      clear hK K
      refine wpQuiet_step (fun K hK => ?_)
      refine quiet_want (by kernel_rfl) ⟨(.string extra), fun W hW => ?_, ?_⟩
      · refine quietAt_val ?_
        go_simp
      go_simp
      refine hK _ ?_
      clear hK K
      refine wpQuiet_step (fun K hK => ?_)
      refine quiet_want (by kernel_rfl) ⟨(.string M), fun W hW => ?_, ?_⟩
      · refine quietAt_call (f := 55) (args := (#[.agg (rowI .u8 ks), .agg (rowI .u8 ns), .string A, .string extra])) (by go_simp) ?_
        refine (pmark_calls ks ns A extra HK.out HN.out BK.out BN.out SA.out he W (rangeAt_below T0.out hW.1) (rangeAt_below T1.out hW.1)).mono ?_
        rw [← HM.out]
        rintro e W' ⟨rfl, hb⟩
        exact ⟨rfl, hW.1.trans (hb.mono hW.1.size), hW.2.1.below hb hW.2.1.inside, hW.2.2.below hb hW.2.2.inside⟩
      go_simp
      refine hK _ ?_
      clear hK K
      refine wpQuiet_step (fun K hK => ?_)
      refine quiet_want (by kernel_rfl) ⟨(.bool true), fun W hW => ?_, ?_⟩
      · refine quietAt_call (f := 56) (args := (#[.string T, .string M])) (by go_simp) ?_
        refine (same_calls T M ST.out W).mono ?_
        rw [HEQ.out]
        rintro e W' ⟨rfl, m, rfl⟩
        have hb := below_drawnN (Below.refl W.heap.size W) m
        exact ⟨rfl, hW.1.trans (hb.mono hW.1.size), hW.2.1.below hb hW.2.1.inside, hW.2.2.below hb hW.2.2.inside⟩
      go_simp
      refine hK _ ?_
      clear hK K
      refine wpQuiet_step (fun K hK => ?_)
      refine quiet_want (by kernel_rfl) ⟨(.bool false), fun W hW => ?_, ?_⟩
      · refine quietAt_val ?_
        go_simp
      go_simp
      refine hK _ ?_
      clear hK K
      refine wpQuiet_nil ?_
      intro W1 hF1
      have HF1 := Lib.hid hF1
      clear hF1
      go_wp2_with fail
      refine wp_region_class (fun W => Below w.heap.size w W ∧ Whole W w.heap.size 22 (rowI .u8 ks) ∧ Whole W (w.heap.size + 1) 24 (rowI .u8 ns)) (by kernel_rfl) (by kernel_rfl) ⟨(HF1.out.1.trans (below_drawnN (Below.refl _ _) 1)), HF1.out.2.1.drew, HF1.out.2.2.drew⟩ ?_
      refine wpQuiet_step (fun K hK => ?_)
      refine quiet_load (by kernel_rfl) 22 (.tmp 4) rfl _ rfl 22 (rowI .u8 ks) _ (fun W hW => hW.2.1) Tryd.underlying22 rfl H1.out ?_
      go_simp
      refine hK _ ?_
      clear hK K
      refine wpQuiet_step (fun K hK => ?_)
      refine quiet_load (by kernel_rfl) 24 (.tmp 5) rfl _ rfl 24 (rowI .u8 ns) _ (fun W hW => hW.2.2) Tryd.underlying24 rfl H2.out ?_
      go_simp
      refine hK _ ?_
      clear hK K
      refine wpQuiet_step (fun K hK => ?_)
      refine quiet_want (by kernel_rfl) ⟨(.string s), fun W hW => ?_, ?_⟩
      · refine quietAt_val ?_
        go_simp
      go_simp
      refine hK _ ?_
      clear hK K
      refine wpQuiet_step (fun K hK => ?_)
      refine quiet_want (by kernel_rfl) ⟨(.int .i64 (n : Int)), fun W hW => ?_, ?_⟩
      · refine quietAt_val ?_
        go_simp
      go_simp
      refine hK _ ?_
      clear hK K
      refine wpQuiet_step (fun K hK => ?_)
      refine quiet_want (by kernel_rfl) ⟨(.string A), fun W hW => ?_, ?_⟩
      · refine quietAt_val ?_
        go_simp
      go_simp
      refine hK _ ?_
      clear hK K
      refine wpQuiet_step (fun K hK => ?_)
      refine quiet_want (by kernel_rfl) ⟨(.string X), fun W hW => ?_, ?_⟩
      · refine quietAt_call (f := 17) (args := (#[.agg (rowI .u8 ks), .int .u32 1, .agg (rowI .u8 ns), .string A])) (by go_simp) ?_
        refine (xor_calls ks ns 1 A HK.out HN.out BK.out BN.out (by decide) (by decide) (by have := SA.out; omega) W (rangeAt_below T0.out hW.1) (rangeAt_below T1.out hW.1)).mono ?_
        rw [← HX.out]
        rintro e W' ⟨rfl, hb⟩
        exact ⟨rfl, hW.1.trans (hb.mono hW.1.size), hW.2.1.below hb hW.2.1.inside, hW.2.2.below hb hW.2.2.inside⟩
      go_simp
      refine hK _ ?_
      clear hK K
      refine wpQuiet_step (fun K hK => ?_)
      refine quiet_want (by kernel_rfl) ⟨(.string X), fun W hW => ?_, ?_⟩
      · refine quietAt_val ?_
        go_simp
      go_simp
      refine hK _ ?_
      clear hK K
      refine wpQuiet_step (fun K hK => ?_)
      refine quiet_want (by kernel_rfl) ⟨(.nilIface), fun W hW => ?_, ?_⟩
      · refine quietAt_val ?_
        go_simp
      go_simp
      refine hK _ ?_
      clear hK K
      refine wpQuiet_nil ?_
      intro W2 hF2
      have HF2 := Lib.hid hF2.1
      clear hF2
      go_wp2_with fail
      go_ret2
      exact ⟨rfl, HF2.out⟩
    · have HEQ := Lib.hid (show decide (T = M) = false by simp only [decide_eq_false_iff_not]; exact fun e => hq e.symm)
      rw [if_neg hq, if_neg hq, nil_str, show errV 5 vE vM = vM from rfl]
      clear hq
      go_enter Tryd.func23, Tryd.ntmps23
      go_wp2_with fail
      refine name_wp (fun W => Below w.heap.size w W ∧ Whole W w.heap.size 22 (rowI .u8 ks) ∧ Whole W (w.heap.size + 1) 24 (rowI .u8 ns)) ⟨by go_grown, (Whole.new rfl rfl).alloc _, Whole.new (by simp) rfl⟩ ?_
      intro W0 hF0
      refine wp_region_class (fun W => Below w.heap.size w W ∧ Whole W w.heap.size 22 (rowI .u8 ks) ∧ Whole W (w.heap.size + 1) 24 (rowI .u8 ns)) (by kernel_rfl) (by kernel_rfl) ⟨(hF0.1.trans (below_drawnN (Below.refl _ _) 1)), hF0.2.1.drew, hF0.2.2.drew⟩ ?_
      clear hF0 W0
      refine wpQuiet_step (fun K hK => ?_)
      refine quiet_want (by kernel_rfl) ⟨(.string s), fun W hW => ?_, ?_⟩
      · refine quietAt_val ?_
        go_simp
      go_simp
      refine hK _ ?_
      clear hK K
      refine wpQuiet_step (fun K hK => ?_)
      refine quiet_want (by kernel_rfl) ⟨(.int .i64 (n : Int)), fun W hW => ?_, ?_⟩
      · refine quietAt_val ?_
        go_simp
      go_simp
      refine hK _ ?_
      clear hK K
      refine wpQuiet_step (fun K hK => ?_)
      refine quiet_want (by kernel_rfl) ⟨(.string T), fun W hW => ?_, ?_⟩
      · refine quietAt_val ?_
        go_simp
      go_simp
      refine hK _ ?_
      clear hK K
      refine wpQuiet_step (fun K hK => ?_)
      refine quiet_load (by kernel_rfl) 22 (.tmp 4) rfl _ rfl 22 (rowI .u8 ks) _ (fun W hW => hW.2.1) Tryd.underlying22 rfl H1.out ?_
      go_simp
      refine hK _ ?_
      clear hK K
      refine wpQuiet_step (fun K hK => ?_)
      refine quiet_load (by kernel_rfl) 24 (.tmp 5) rfl _ rfl 24 (rowI .u8 ns) _ (fun W hW => hW.2.2) Tryd.underlying24 rfl H2.out ?_
      go_simp
      refine hK _ ?_
      clear hK K
      refine wpQuiet_step (fun K hK => ?_)
      refine quiet_want (by kernel_rfl) ⟨(.string s), fun W hW => ?_, ?_⟩
      · refine quietAt_val ?_
        go_simp
      go_simp
      refine hK _ ?_
      clear hK K
      refine wpQuiet_step (fun K hK => ?_)
      refine quiet_want (by kernel_rfl) ⟨(.int .i64 (n : Int)), fun W hW => ?_, ?_⟩
      · refine quietAt_val ?_
        go_simp
      go_simp
      refine hK _ ?_
      clear hK K
      refine wpQuiet_step (fun K hK => ?_)
      refine quiet_want (by kernel_rfl) ⟨(.string A), fun W hW => ?_, ?_⟩
      · refine quietAt_val ?_
        go_simp
      go_simp
      refine hK _ ?_
      clear hK K
      refine wpQuiet_step (fun K hK => ?_)
      refine quiet_want (by kernel_rfl) ⟨(.string extra), fun W hW => ?_, ?_⟩
      · refine quietAt_val ?_
        go_simp
      go_simp
      refine hK _ ?_
      clear hK K
      refine wpQuiet_step (fun K hK => ?_)
      refine quiet_want (by kernel_rfl) ⟨(.string M), fun W hW => ?_, ?_⟩
      · refine quietAt_call (f := 55) (args := (#[.agg (rowI .u8 ks), .agg (rowI .u8 ns), .string A, .string extra])) (by go_simp) ?_
        refine (pmark_calls ks ns A extra HK.out HN.out BK.out BN.out SA.out he W (rangeAt_below T0.out hW.1) (rangeAt_below T1.out hW.1)).mono ?_
        rw [← HM.out]
        rintro e W' ⟨rfl, hb⟩
        exact ⟨rfl, hW.1.trans (hb.mono hW.1.size), hW.2.1.below hb hW.2.1.inside, hW.2.2.below hb hW.2.2.inside⟩
      go_simp
      refine hK _ ?_
      clear hK K
      refine wpQuiet_step (fun K hK => ?_)
      refine quiet_want (by kernel_rfl) ⟨(.bool false), fun W hW => ?_, ?_⟩
      · refine quietAt_call (f := 56) (args := (#[.string T, .string M])) (by go_simp) ?_
        refine (same_calls T M ST.out W).mono ?_
        rw [HEQ.out]
        rintro e W' ⟨rfl, m, rfl⟩
        have hb := below_drawnN (Below.refl W.heap.size W) m
        exact ⟨rfl, hW.1.trans (hb.mono hW.1.size), hW.2.1.below hb hW.2.1.inside, hW.2.2.below hb hW.2.2.inside⟩
      go_simp
      refine hK _ ?_
      clear hK K
      refine wpQuiet_step (fun K hK => ?_)
      refine quiet_want (by kernel_rfl) ⟨(.bool true), fun W hW => ?_, ?_⟩
      · refine quietAt_val ?_
        go_simp
      go_simp
      refine hK _ ?_
      clear hK K
      refine wpQuiet_nil ?_
      intro W1 hF1
      have cM : W1.cell? ⟨3, 0, none⟩ = some vM := (hF1.1.cell (p := ⟨3, 0, none⟩) HGM.out).trans HCM.out
      have HF1 := Lib.hid hF1.1
      clear hF1
      go_wp2_with fail
      go_quiet (fail)
      go_wp2_with fail
      go_ret2
      exact ⟨rfl, below_drawnN HF1.out _⟩
end Go.Proofs.YtfoljmpphbhobaaDoor
