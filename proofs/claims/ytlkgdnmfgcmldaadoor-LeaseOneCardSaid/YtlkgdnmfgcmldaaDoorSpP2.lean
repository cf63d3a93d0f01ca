/- The law's step, kind 2. -/
import Derived.Test.YtlkgdnmfgcmldaaDoorLea32
import Derived.Deep.RegionHeld3
import Derived.Deep.RegionWith
import Derived.Deep.QuietTactic
import Derived.BigQuiet
import Derived.BigRegion
import Derived.Deep.DeepCutAuto
namespace Go.Proofs.YtlkgdnmfgcmldaaDoor
open Go.RowKit Go.Spk
set_option linter.unusedVariables false
attribute [local go_sem ↓] Go.wp_at_zero Go.wp_at_succ wp_ldT wp_ldR wp_ldL wp_stT wp_stR
attribute [local go_sem] Lies.drew_is rowAt_drew Lies.set Lies.set_drew rowAt_set rowBlk_is
set_option maxRecDepth 100000 in
set_option maxHeartbeats 8000000 in
theorem step2P (E : Nat → Addr) (w0 w : World) (g b : Nat) (n tt l ep : Int) (L : List Lse) (B : Nat) (v : Value) (x : Act) (hx : x.t.size ≤ maxLen ∧ x.a.size ≤ maxLen) (hL : L.length ≤ 100000) (he : 0 ≤ ep ∧ ep ≤ 1000000) (hE : Errs w0 E) (hB : g < B ∧ b < B ∧ B ≤ w.heap.size) (hH : Hold w0 w g b n tt l ep L) (hv : Lows w B 71 v L) (hk : x.k = 2) :
    Calls Tryd.prog 15 #[.pointer (some ⟨g, 0, none⟩), refV n tt l ep v, .agg (actC x).toArray] w (StepP w0 w g b n tt l B (stepM n tt l ep L x)) := by
  obtain ⟨A, c, rfl⟩ := hv.lens
  have hr : stepM n tt l ep L x = ((cancelM L (cutB x.t 70) (cutB x.a 70) x.o).1, ep) := by unfold stepM; rw [if_neg (by omega), if_pos hk]
  obtain ⟨r, hrr⟩ : ∃ r, r = stepM n tt l ep L x := ⟨_, rfl⟩
  have HRR := Lib.hid (hrr.trans hr)
  rw [← hrr]
  clear hr hrr
  have k1 : (x.k == 1) = false := by simp; omega
  have k2 : (x.k == 2) = true := by simp [hk]
  have HH := Lib.hid (show Hold w0 w g b n tt l ep L ∧ Lows w B 71 (.slice A L.length c) L ∧ Errs w0 E ∧ (g < B ∧ b < B ∧ B ≤ w.heap.size) ∧ w0.heap.size ≤ w.heap.size ∧ (0 ≤ ep ∧ ep ≤ 1000000) ∧ L.length ≤ 100000 from ⟨hH, hv, hE, hB, hH.below.size, he, hL⟩)
  have HX := Lib.hid hx
  have hm : (L.length : Int) ≤ 100000 := by omega
  clear hx he hE hB hH hv hk hL
  unfold refV actC
  go_enter Tryd.func15, Tryd.ntmps15
  go_upto_region 1 with fail
  refine name_wp (fun W => Stepping w0 w W g b n tt l ep L ep B (.slice A L.length c) L x) ?_ ?_
  · have hb : Below w.heap.size w (((w.alloc (.cells (refC n tt l ep (.slice A L.length c)) 44)).alloc (.cells (actC x).toArray 49)).alloc (.cells (refC 0 0 0 0 (.slice none 0 0)) 44)) := by go_grown
    have a1 : Whole (w.alloc (.cells (refC n tt l ep (.slice A L.length c)) 44)) w.heap.size 44 (refC n tt l ep (.slice A L.length c)) := Whole.new rfl rfl
    have a2 : Whole ((w.alloc (.cells (refC n tt l ep (.slice A L.length c)) 44)).alloc (.cells (actC x).toArray 49)) (w.heap.size + 1) 49 (actC x).toArray := Whole.new (by simp) rfl
    exact ⟨HH.out.1.quiet hb, HH.out.2.1.rest hb, Kept2.of_below hb g b, (a1.alloc _).alloc _, a2.alloc _, Whole.new (by simp) rfl, HH.out.2.2.2.1, HH.out.2.2.2.2.1⟩
  intro W0 hF0
  have HF0 := Lib.hid hF0
  have c1 : W0.cell? ⟨w.heap.size + 1, 1, none⟩ = some (.string x.t) := hF0.act.at_ 1
  have c2 : W0.cell? ⟨w.heap.size + 1, 2, none⟩ = some (.string x.a) := hF0.act.at_ 2
  clear hF0
  have hq1 := cut_calls x.t HX.out.1 70 (by decide)
  have hq2 := cut_calls x.a HX.out.2 70 (by decide)
  have HQ := Lib.hid (And.intro hq1 hq2)
  clear hq1 hq2
  go_quiet (first
    | (go_at_call_of 20 (Value.string x.t); exact Calls.quiet_of_same (HQ.out.1 _))
    | (go_at_call_of 20 (Value.string x.a); exact Calls.quiet_of_same (HQ.out.2 _)))
  clear c1 c2
  obtain ⟨tn, htn⟩ : ∃ tn, tn = cutB x.t 70 := ⟨_, rfl⟩
  obtain ⟨al, hal⟩ : ∃ al, al = cutB x.a 70 := ⟨_, rfl⟩
  rw [← htn, ← hal]
  have HTN := Lib.hid (And.intro htn hal)
  have HSZ := Lib.hid (show tn.size ≤ maxLen ∧ al.size ≤ maxLen from ⟨by rw [htn]; exact Nat.le_trans (cutB_size _ _) (by unfold maxLen; omega), by rw [hal]; exact Nat.le_trans (cutB_size _ _) (by unfold maxLen; omega)⟩)
  clear htn hal
  go_upto_region 2 with fail
  refine name_wp (fun W => Stepping w0 w W g b n tt l ep L ep B (.slice A L.length c) L x) (HF0.out.quiet (below_drawnN (Below.refl _ _) _)) ?_
  intro W1 hF1
  have HF1 := Lib.hid hF1
  have r1 := row_is (m := 5) hF1.row rfl
  have l1 := lies_of (m := 5) hF1.row rfl
  simp only [refC] at r1
  clear hF1
  go_wp2_with fail
  refine (at_calls n tt l ep B (.slice A L.length c) L HH.out.2.2.2.2.2.2 tn al _ HF1.out.list).mono ?_
  rintro e W2 ⟨rfl, hb2⟩
  have HF2 := Lib.hid (HF1.out.quiet hb2)
  clear hb2 r1 l1
  have a0 : W2.cell? ⟨w.heap.size + 1, 0, none⟩ = some (.int .i64 x.k) := HF2.out.act.at_ 0
  have a3 : W2.cell? ⟨w.heap.size + 1, 3, none⟩ = some (.int .i64 x.o) := HF2.out.act.at_ 3
  go_wp2_with fail
  have hcan := h_cancel W2 HF2.out.hold E HH.out.2.2.1 tn al x.o HSZ.out.1 HSZ.out.2
  by_cases hfd : ∃ y, lookL L tn al = some y ∧ y.o = x.o
  · obtain ⟨y, hlk, ho⟩ := hfd
    have hcc := cancel_yes HF2.out.hold.asc hlk ho
    have hrr := HRR.out
    rw [← HTN.out.1, ← HTN.out.2, hcc.1] at hrr
    clear HRR
    have HRR := Lib.hid hrr
    rw [hcc.1] at hcan
    have HCC := Lib.hid hcc
    clear hlk ho hcc hrr
    refine hcan.mono ?_
    clear hcan
    rintro e W3 ⟨rfl, h3, hk3⟩
    rw [show errV E (0 : Nat) = .nilIface from rfl]
    have HF3 := Lib.hid (HF2.out.turned h3 hk3)
    have HW3 := Lib.hid (show w.heap.size + 3 ≤ W3.heap.size by have := HF3.out.out.inside; omega)
    clear h3 hk3 a0 a3
    unfold lseV
    go_upto_region 11 with fail
    refine name_wp (fun W => Stepping w0 w W g b n tt l ep (L.filter (notN tn al)) ep B (.slice A L.length c) L x ∧ Whole W W3.heap.size 29 (lseC y).toArray) ⟨HF3.out.quiet ((Below.refl _ _).alloc (Nat.le_refl _) _), Whole.new rfl rfl⟩ ?_
    intro W4 hF4
    have HF4 := Lib.hid hF4
    clear hF4
    have r1 := row_is (m := 5) (HF4.out.1).row rfl
    have l1 := lies_of (m := 5) (HF4.out.1).row rfl
    simp only [refC] at r1
    have a3 : W4.cell? ⟨w.heap.size + 1, 3, none⟩ = some (.int .i64 x.o) := HF4.out.1.act.at_ 3
    go_wp2_with fail
    have hsf := rsift2_calls n tt l ep B (.slice A L.length c) L HH.out.2.2.2.2.2.2 ⟨tn, al, x.o, 0, 0⟩ 0 W4 HF4.out.1.list
    rw [show L.filter (isIt ⟨tn, al, x.o, 0, 0⟩) = [y] from HCC.out.2.1, show (L.filter fun z => !(isIt ⟨tn, al, x.o, 0, 0⟩) z) = (L.filter (notN tn al)) from HCC.out.2.2] at hsf
    refine hsf.mono ?_
    clear hsf
    rintro e W5 ⟨v', g', rfl, h5, h5g, hb5⟩
    obtain ⟨A', c', rfl⟩ := h5.lens
    obtain ⟨Ag, cg, rfl⟩ := h5g.lens
    have HF5 := Lib.hid (And.intro (HF4.out.1.quiet hb5) (And.intro (HF4.out.2.below hb5 HF4.out.2.inside) (And.intro h5 h5g)))
    clear h5 h5g hb5 a3 r1 l1
    unfold refV
    generalize hN : ((L.filter (notN tn al))).length = N at HF5 ⊢
    clear hN
    go_upto_region 14 with fail
    obtain ⟨vv, hvv⟩ : ∃ vv, vv = Value.slice A' N c' := ⟨_, rfl⟩
    have HVV := Lib.hid hvv
    rw [← hvv] at HF5 ⊢
    clear hvv
    have hAl : Below W5.heap.size W5 (W5.alloc (.cells (refC n tt l ep vv) 44)) := (Below.refl _ _).alloc (Nat.le_refl _) _
    refine name_wp (fun W => Stepping w0 w W g b n tt l ep (L.filter (notN tn al)) ep B (.slice A L.length c) L x ∧ Whole W W3.heap.size 29 (lseC y).toArray ∧ Whole W W5.heap.size 44 (refC n tt l ep vv) ∧ Lows W W4.heap.size 71 vv (L.filter (notN tn al)) ∧ Lows W W4.heap.size 71 (.slice Ag [y].length cg) [y]) ⟨HF5.out.1.quiet hAl, HF5.out.2.1.below hAl HF5.out.2.1.inside, Whole.new rfl rfl, HF5.out.2.2.1.rest hAl, HF5.out.2.2.2.rest hAl⟩ ?_
    clear hAl
    intro W6 hF6
    have HF6 := Lib.hid hF6
    clear hF6
    have HW5 := Lib.hid (show w.heap.size + 3 ≤ W5.heap.size by have := HF5.out.1.out.inside; omega)
    obtain ⟨gg, cap2, hv, hgg, _, hcell⟩ := HF6.out.2.2.2.2.at_ (k := 0) (x := y) rfl
    have HGG := Lib.hid (show w.heap.size + 3 ≤ gg by have := HF4.out.1.out.inside; omega)
    injection hv with hv1 hv2 hv3
    subst hv1; subst hv3
    have f0 : World.cell? W6 ⟨gg, 0, none⟩ = some (.string y.t) := by have h := (hcell 0 _ rfl).1; simpa using h
    have f1 : World.cell? W6 ⟨gg, 1, none⟩ = some (.string y.a) := by have h := (hcell 1 _ rfl).1; simpa using h
    have f2 : World.cell? W6 ⟨gg, 2, none⟩ = some (.int .i64 y.o) := by have h := (hcell 2 _ rfl).1; simpa using h
    have f3 : World.cell? W6 ⟨gg, 3, none⟩ = some (.int .i64 y.e) := by have h := (hcell 3 _ rfl).1; simpa using h
    have f4 : World.cell? W6 ⟨gg, 4, none⟩ = some (.int .i64 y.l) := by have h := (hcell 4 _ rfl).1; simpa using h
    clear hcell hgg hv2
    have c0 : World.cell? W6 ⟨W5.heap.size, 0, none⟩ = some (.int .i64 n) := by rw [HF6.out.2.2.1.at_]; rfl
    have c1 : World.cell? W6 ⟨W5.heap.size, 1, none⟩ = some (.int .i64 tt) := by rw [HF6.out.2.2.1.at_]; rfl
    have c2 : World.cell? W6 ⟨W5.heap.size, 2, none⟩ = some (.int .i64 l) := by rw [HF6.out.2.2.1.at_]; rfl
    have c3 : World.cell? W6 ⟨W5.heap.size, 3, none⟩ = some (.int .i64 ep) := by rw [HF6.out.2.2.1.at_]; rfl
    have c4 : World.cell? W6 ⟨W5.heap.size, 4, none⟩ = some (vv) := by rw [HF6.out.2.2.1.at_]; rfl
    have g0 : World.cell? W6 ⟨W3.heap.size, 0, none⟩ = some (.string y.t) := by rw [HF6.out.2.1.at_]; rfl
    have g1 : World.cell? W6 ⟨W3.heap.size, 1, none⟩ = some (.string y.a) := by rw [HF6.out.2.1.at_]; rfl
    have g2 : World.cell? W6 ⟨W3.heap.size, 2, none⟩ = some (.int .i64 y.o) := by rw [HF6.out.2.1.at_]; rfl
    have g3 : World.cell? W6 ⟨W3.heap.size, 3, none⟩ = some (.int .i64 y.e) := by rw [HF6.out.2.1.at_]; rfl
    have g4 : World.cell? W6 ⟨W3.heap.size, 4, none⟩ = some (.int .i64 y.l) := by rw [HF6.out.2.1.at_]; rfl
    have hq := eql_rlease y y
    rw [eqL_self] at hq
    have hgd := guard_rlease
    simp only [lseC] at hq
    have l6 : Lies W6 (.pointer (some ⟨w.heap.size + 1 + 1, 0, none⟩)) 5 := lies_of (m := 5) HF6.out.1.out rfl
    have o1 := rowOf_T n tt l ep vv (by rw [HVV.out]; rfl)
    unfold refV at o1
    have hn1 : ¬ W5.heap.size = w.heap.size + 1 + 1 := by have := HW5.out; omega
    have hn2 : ¬ gg = w.heap.size + 1 + 1 := by have := HGG.out; omega
    have hn3 : ¬ W3.heap.size = w.heap.size + 1 + 1 := by have := HW3.out; omega
    obtain ⟨F, hF⟩ : ∃ F, F = (W6.drew).setCells (w.heap.size + 1 + 1) 0 [Value.int IntKind.i64 n, Value.int IntKind.i64 tt, Value.int IntKind.i64 l, Value.int IntKind.i64 ep, vv] := ⟨_, rfl⟩
    have HFX := Lib.hid hF
    clear hF
    go_region_held3 (fun w' => w'.cell? ⟨W5.heap.size, 0, none⟩ = some (.int .i64 n) ∧ w'.cell? ⟨W5.heap.size, 1, none⟩ = some (.int .i64 tt) ∧ w'.cell? ⟨W5.heap.size, 2, none⟩ = some (.int .i64 l) ∧ w'.cell? ⟨W5.heap.size, 3, none⟩ = some (.int .i64 ep) ∧ w'.cell? ⟨W5.heap.size, 4, none⟩ = some (vv) ∧ w'.cell? ⟨W3.heap.size, 0, none⟩ = some (.string y.t) ∧ w'.cell? ⟨W3.heap.size, 1, none⟩ = some (.string y.a) ∧ w'.cell? ⟨W3.heap.size, 2, none⟩ = some (.int .i64 y.o) ∧ w'.cell? ⟨W3.heap.size, 3, none⟩ = some (.int .i64 y.e) ∧ w'.cell? ⟨W3.heap.size, 4, none⟩ = some (.int .i64 y.l) ∧ w'.cell? ⟨gg, 0, none⟩ = some (.string y.t) ∧ w'.cell? ⟨gg, 1, none⟩ = some (.string y.a) ∧ w'.cell? ⟨gg, 2, none⟩ = some (.int .i64 y.o) ∧ w'.cell? ⟨gg, 3, none⟩ = some (.int .i64 y.e) ∧ w'.cell? ⟨gg, 4, none⟩ = some (.int .i64 y.l)) (first | (simp only [cell_set_ne hn1, cell_set_ne hn2, cell_set_ne hn3]; go_keep) | go_keep) (first | fail)
    rw [← HFX.out]
    clear c0 c1 c2 c3 c4 g0 g1 g2 g3 g4 f0 f1 f2 f3 f4 hq hgd l6 o1 hn1 hn2 hn3
    go_wp2_with fail
    have hl := Stepping.left (n' := n) (tt' := tt) (l' := l) (e' := ep) (v' := vv) (HF6.out.1.quiet (below_drawnN (Below.refl _ _) 1)) HFX.out
    rw [HRR.out]
    exact bodyPost_ret_by (results_row_tmp (p := 6) (u := 7) rfl _ _ (w.heap.size + 1 + 1) 44 (refC n tt l ep vv) (0, 0) _ rfl hl.2.2.1 Tryd.underlying44 rfl (by kernel_rfl)) rfl ⟨⟨vv, rfl, (((HF6.out.1.quiet (below_drawnN (Below.refl _ _) 1)).lists HFX.out (HF6.out.2.2.2.1.rest (below_drawnN (Below.refl _ _) 1))).less (by have := HF4.out.1.out.inside; have := HF4.out.1.far; omega))⟩, hl.1, hl.2.1⟩
  · have hcc := cancel_no HF2.out.hold.asc hfd
    have hrr := HRR.out
    rw [← HTN.out.1, ← HTN.out.2, hcc.1] at hrr
    clear HRR
    have HRR := Lib.hid hrr
    rw [hcc.1] at hcan
    have HCC := Lib.hid hcc
    clear hfd hcc hrr
    refine hcan.mono ?_
    clear hcan
    rintro e W3 ⟨rfl, h3, hk3⟩
    rw [show errV E (8 : Nat) = errI (E 7) from rfl]
    have HF3 := Lib.hid (HF2.out.turned h3 hk3)
    have HW3 := Lib.hid (show w.heap.size + 3 ≤ W3.heap.size by have := HF3.out.out.inside; omega)
    clear h3 hk3 a0 a3
    unfold lseV lse0
    go_upto_region 11 with fail
    refine name_wp (fun W => Stepping w0 w W g b n tt l ep L ep B (.slice A L.length c) L x ∧ Whole W W3.heap.size 29 (lseC lse0).toArray) ⟨HF3.out.quiet ((Below.refl _ _).alloc (Nat.le_refl _) _), Whole.new rfl rfl⟩ ?_
    intro W4 hF4
    have HF4 := Lib.hid hF4
    clear hF4
    have r1 := row_is (m := 5) (HF4.out.1).row rfl
    have l1 := lies_of (m := 5) (HF4.out.1).row rfl
    simp only [refC] at r1
    have a3 : W4.cell? ⟨w.heap.size + 1, 3, none⟩ = some (.int .i64 x.o) := HF4.out.1.act.at_ 3
    go_wp2_with fail
    have hsf := rsift2_calls n tt l ep B (.slice A L.length c) L HH.out.2.2.2.2.2.2 ⟨tn, al, x.o, 0, 0⟩ 0 W4 HF4.out.1.list
    rw [show L.filter (isIt ⟨tn, al, x.o, 0, 0⟩) = [] from HCC.out.2.1, show (L.filter fun z => !(isIt ⟨tn, al, x.o, 0, 0⟩) z) = L from HCC.out.2.2] at hsf
    refine hsf.mono ?_
    clear hsf
    rintro e W5 ⟨v', g', rfl, h5, h5g, hb5⟩
    obtain ⟨A', c', rfl⟩ := h5.lens
    obtain ⟨Ag, cg, rfl⟩ := h5g.lens
    have HF5 := Lib.hid (And.intro (HF4.out.1.quiet hb5) (And.intro (HF4.out.2.below hb5 HF4.out.2.inside) (And.intro h5 h5g)))
    clear h5 h5g hb5 a3 r1 l1
    unfold refV
    generalize (L).length = N
    go_upto_region 13 with fail
    refine name_wp (fun W => Stepping w0 w W g b n tt l ep L ep B (.slice A L.length c) L x ∧ Whole W W3.heap.size 29 (lseC lse0).toArray) ⟨HF5.out.1.quiet ((Below.refl _ _).alloc (Nat.le_refl _) _), HF5.out.2.1.alloc _⟩ ?_
    intro W6 hF6
    have HF6 := Lib.hid hF6
    clear hF6
    have HCD := Lib.hid (show Calls Tryd.prog 12 #[errI (E 7)] (World.drew W6) fun e w' => e = .returned (.int .i64 (((7 : Nat) : Int) + 1)) ∧ World.drew W6 = w' from (fun V (hb : Below (World.heap W6).size W6 V) => code_bare E 7 (by decide) V ((HH.out.2.2.1).below ((HF6.out.1).quiet hb).hold.below)) _ (below_drawnN (Below.refl _ _) 1))
    have c0 : World.cell? W6 ⟨w.heap.size, 0, none⟩ = some (.int .i64 n) := by rw [(HF6.out.1).row.at_]; rfl
    have c1 : World.cell? W6 ⟨w.heap.size, 1, none⟩ = some (.int .i64 tt) := by rw [(HF6.out.1).row.at_]; rfl
    have c2 : World.cell? W6 ⟨w.heap.size, 2, none⟩ = some (.int .i64 l) := by rw [(HF6.out.1).row.at_]; rfl
    have c3 : World.cell? W6 ⟨w.heap.size, 3, none⟩ = some (.int .i64 ep) := by rw [(HF6.out.1).row.at_]; rfl
    have c4 : World.cell? W6 ⟨w.heap.size, 4, none⟩ = some (.slice A L.length c) := by rw [(HF6.out.1).row.at_]; rfl
    have g0 : World.cell? W6 ⟨W3.heap.size, 0, none⟩ = some (.string ⟨#[]⟩) := by rw [(HF6.out.2).at_]; rfl
    have g1 : World.cell? W6 ⟨W3.heap.size, 1, none⟩ = some (.string ⟨#[]⟩) := by rw [(HF6.out.2).at_]; rfl
    have g2 : World.cell? W6 ⟨W3.heap.size, 2, none⟩ = some (.int .i64 0) := by rw [(HF6.out.2).at_]; rfl
    have g3 : World.cell? W6 ⟨W3.heap.size, 3, none⟩ = some (.int .i64 0) := by rw [(HF6.out.2).at_]; rfl
    have g4 : World.cell? W6 ⟨W3.heap.size, 4, none⟩ = some (.int .i64 0) := by rw [(HF6.out.2).at_]; rfl
    have hq := eql_lease lse0 lse0
    rw [eqL_self] at hq
    have hgd := guard_lease
    simp only [lseC, lse0] at hq
    have hn3 : ¬ W3.heap.size = w.heap.size + 1 + 1 := by have := HW3.out; omega
    have l6 : Lies W6 (.pointer (some ⟨w.heap.size + 1 + 1, 0, none⟩)) 5 := lies_of (m := 5) (HF6.out.1).out rfl
    have o1 := rowOf_T n tt l ep (.slice A L.length c) rfl
    unfold refV at o1
    have hn1 : ¬ w.heap.size = w.heap.size + 1 + 1 := by omega
    obtain ⟨F, hF⟩ : ∃ F, F = (World.drew W6).setCells (w.heap.size + 1 + 1) 0 [Value.int IntKind.i64 n, Value.int IntKind.i64 tt, Value.int IntKind.i64 l, Value.int IntKind.i64 ep, Value.slice A L.length c] := ⟨_, rfl⟩
    have HFX := Lib.hid hF
    clear hF
    go_region_held3 (fun w' => w'.cell? ⟨w.heap.size, 0, none⟩ = some (.int .i64 n) ∧ w'.cell? ⟨w.heap.size, 1, none⟩ = some (.int .i64 tt) ∧ w'.cell? ⟨w.heap.size, 2, none⟩ = some (.int .i64 l) ∧ w'.cell? ⟨w.heap.size, 3, none⟩ = some (.int .i64 ep) ∧ w'.cell? ⟨w.heap.size, 4, none⟩ = some (.slice A L.length c) ∧ w'.cell? ⟨W3.heap.size, 0, none⟩ = some (.string ⟨#[]⟩) ∧ w'.cell? ⟨W3.heap.size, 1, none⟩ = some (.string ⟨#[]⟩) ∧ w'.cell? ⟨W3.heap.size, 2, none⟩ = some (.int .i64 0) ∧ w'.cell? ⟨W3.heap.size, 3, none⟩ = some (.int .i64 0) ∧ w'.cell? ⟨W3.heap.size, 4, none⟩ = some (.int .i64 0)) (first | (simp only [cell_set_ne hn1, cell_set_ne hn3]; go_keep) | go_keep)
      (first | (go_at_call 12; refine (HCD.out).mono ?_; rintro e wq ⟨rfl, rfl⟩))
    rw [← HFX.out]
    clear c0 c1 c2 c3 c4 g0 g1 g2 g3 g4 hq hgd hn3 l6 o1 hn1
    go_wp2_with fail
    have hl := Stepping.left (n' := n) (tt' := tt) (l' := l) (e' := ep) (v' := (.slice A L.length c)) ((HF6.out.1).quiet (below_drawnN (Below.refl _ _) 1)) HFX.out
    rw [HRR.out]
    exact bodyPost_ret_by (results_row_tmp (p := 6) (u := 7) rfl _ _ (w.heap.size + 1 + 1) 44 (refC n tt l ep (.slice A L.length c)) (0, 0) _ rfl hl.2.2.1 Tryd.underlying44 rfl (by kernel_rfl)) rfl ⟨⟨(.slice A L.length c), rfl, ((HF6.out.1).keeps rfl HFX.out HH.out.2.1)⟩, hl.1, hl.2.1⟩
end Go.Proofs.YtlkgdnmfgcmldaaDoor
