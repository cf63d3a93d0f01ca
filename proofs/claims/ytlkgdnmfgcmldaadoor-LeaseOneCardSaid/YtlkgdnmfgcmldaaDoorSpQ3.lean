/- The law's step, kind 3. -/
import Derived.Test.YtlkgdnmfgcmldaaDoorLea32
import Derived.Deep.RegionHeld3
import Derived.Deep.RegionWith
import Derived.Deep.QuietTactic
import Derived.BigQuiet
import Derived.BigRegion
import Derived.Deep.DeepCutAuto
namespace Go.Proofs.YtlkgdnmfgcmldaaDoor
open Go.RowKit Go.Spk
set_option linter.unusedVariables false
attribute [local go_sem ↓] Go.wp_at_zero Go.wp_at_succ wp_ldT wp_ldR wp_ldL wp_stT wp_stR
attribute [local go_sem] Lies.drew_is rowAt_drew Lies.set Lies.set_drew rowAt_set rowBlk_is
set_option maxRecDepth 100000 in
set_option maxHeartbeats 8000000 in
theorem step3Q (E : Nat → Addr) (w0 w : World) (g b : Nat) (n tt l ep : Int) (L : List Lse) (B : Nat) (x : Act) (hx : x.t.size ≤ maxLen ∧ x.a.size ≤ maxLen) (hL : L.length ≤ 100000) (he : 0 ≤ ep ∧ ep ≤ 1000000) (hE : Errs w0 E) (hB : g < B ∧ b < B ∧ B ≤ w.heap.size) (hH : Hold w0 w g b n tt l ep L) (hk : x.k = 3) :
    Calls Tryd.prog 15 #[.pointer (some ⟨g, 0, none⟩), refV n tt l 0 (.slice none 0 0), .agg (actC x).toArray] w (StepQ w0 w g b n tt l (stepM n tt l ep L x)) := by
  have hv := Lows.nil w B 71
  have hr : stepM n tt l ep L x = (L.map (updL x.o (tickI x.n)), ep) := by unfold stepM; rw [if_neg (by omega), if_neg (by omega), if_pos hk]
  obtain ⟨r, hrr⟩ : ∃ r, r = stepM n tt l ep L x := ⟨_, rfl⟩
  have HRR := Lib.hid (hrr.trans hr)
  rw [← hrr]
  clear hr hrr
  have k1 : (x.k == 1) = false := by simp; omega
  have k2 : (x.k == 2) = false := by simp; omega
  have k3 : (x.k == 3) = true := by simp [hk]
  have HH := Lib.hid (show Hold w0 w g b n tt l ep L ∧ Lows w B 71 (.slice none 0 0) [] ∧ Errs w0 E ∧ (g < B ∧ b < B ∧ B ≤ w.heap.size) ∧ w0.heap.size ≤ w.heap.size ∧ (0 ≤ ep ∧ ep ≤ 1000000) ∧ L.length ≤ 100000 from ⟨hH, hv, hE, hB, hH.below.size, he, hL⟩)
  have HX := Lib.hid hx
  have hm : (L.length : Int) ≤ 100000 := by omega
  clear hx he hE hB hH hv hk hL
  unfold refV actC
  go_enter Tryd.func15, Tryd.ntmps15
  go_upto_region 1 with fail
  refine name_wp (fun W => Stepping w0 w W g b n tt l ep L 0 B (.slice none 0 0) [] x) ?_ ?_
  · have hb : Below w.heap.size w (((w.alloc (.cells (refC n tt l 0 (.slice none 0 0)) 44)).alloc (.cells (actC x).toArray 49)).alloc (.cells (refC 0 0 0 0 (.slice none 0 0)) 44)) := by go_grown
    have a1 : Whole (w.alloc (.cells (refC n tt l 0 (.slice none 0 0)) 44)) w.heap.size 44 (refC n tt l 0 (.slice none 0 0)) := Whole.new rfl rfl
    have a2 : Whole ((w.alloc (.cells (refC n tt l 0 (.slice none 0 0)) 44)).alloc (.cells (actC x).toArray 49)) (w.heap.size + 1) 49 (actC x).toArray := Whole.new (by simp) rfl
    exact ⟨HH.out.1.quiet hb, HH.out.2.1.rest hb, Kept2.of_below hb g b, (a1.alloc _).alloc _, a2.alloc _, Whole.new (by simp) rfl, HH.out.2.2.2.1, HH.out.2.2.2.2.1⟩
  intro W0 hF0
  have HF0 := Lib.hid hF0
  have c1 : W0.cell? ⟨w.heap.size + 1, 1, none⟩ = some (.string x.t) := hF0.act.at_ 1
  have c2 : W0.cell? ⟨w.heap.size + 1, 2, none⟩ = some (.string x.a) := hF0.act.at_ 2
  clear hF0
  have hq1 := cut_calls x.t HX.out.1 70 (by decide)
  have hq2 := cut_calls x.a HX.out.2 70 (by decide)
  have HQ := Lib.hid (And.intro hq1 hq2)
  clear hq1 hq2
  go_quiet (first
    | (go_at_call_of 20 (Value.string x.t); exact Calls.quiet_of_same (HQ.out.1 _))
    | (go_at_call_of 20 (Value.string x.a); exact Calls.quiet_of_same (HQ.out.2 _)))
  clear c1 c2
  obtain ⟨tn, htn⟩ : ∃ tn, tn = cutB x.t 70 := ⟨_, rfl⟩
  obtain ⟨al, hal⟩ : ∃ al, al = cutB x.a 70 := ⟨_, rfl⟩
  rw [← htn, ← hal]
  have HTN := Lib.hid (And.intro htn hal)
  have HSZ := Lib.hid (show tn.size ≤ maxLen ∧ al.size ≤ maxLen from ⟨by rw [htn]; exact Nat.le_trans (cutB_size _ _) (by unfold maxLen; omega), by rw [hal]; exact Nat.le_trans (cutB_size _ _) (by unfold maxLen; omega)⟩)
  clear htn hal
  go_upto_region 2 with fail
  refine name_wp (fun W => Stepping w0 w W g b n tt l ep L 0 B (.slice none 0 0) [] x) (HF0.out.quiet (below_drawnN (Below.refl _ _) _)) ?_
  intro W1 hF1
  have HF1 := Lib.hid hF1
  have r1 := row_is (m := 5) hF1.row rfl
  have l1 := lies_of (m := 5) hF1.row rfl
  simp only [refC] at r1
  clear hF1
  go_wp2_with fail
  refine (at_calls n tt l 0 B (.slice none 0 0) [] (by simp) tn al _ HF1.out.list).mono ?_
  rintro e W2 ⟨rfl, hb2⟩
  have HF2 := Lib.hid (HF1.out.quiet hb2)
  clear hb2 r1 l1
  have a0 : W2.cell? ⟨w.heap.size + 1, 0, none⟩ = some (.int .i64 x.k) := HF2.out.act.at_ 0
  have r1 := row_is (m := 5) (HF2.out).row rfl
  have l1 := lies_of (m := 5) (HF2.out).row rfl
  simp only [refC] at r1
  have a3 : W2.cell? ⟨w.heap.size + 1, 3, none⟩ = some (.int .i64 x.o) := HF2.out.act.at_ 3
  have a4 : W2.cell? ⟨w.heap.size + 1, 4, none⟩ = some (.int .i64 x.n) := HF2.out.act.at_ 4
  go_wp2_with fail
  refine (rbeat_calls n tt l 0 B (.slice none 0 0) [] (by simp) x.o x.n W2 HF2.out.list).mono ?_
  rintro e W3 ⟨v', rfl, h3, hb3⟩
  obtain ⟨A', c', rfl⟩ := h3.lens
  have HF3 := Lib.hid (And.intro (HF2.out.quiet hb3) h3)
  have HW3 := Lib.hid (show w.heap.size + 3 ≤ W3.heap.size by have := HF3.out.1.out.inside; omega)
  generalize ([].map (updL x.o (tickI x.n))).length = N at HF3 ⊢
  clear h3 hb3 a0 a3 a4 r1 l1
  unfold refV
  go_upto_region 17 with fail
  obtain ⟨vv, hvv⟩ : ∃ vv, vv = Value.slice A' N c' := ⟨_, rfl⟩
  have HVV := Lib.hid hvv
  rw [← hvv] at HF3 ⊢
  clear hvv
  refine name_wp (fun W => Stepping w0 w W g b n tt l ep L 0 B (.slice none 0 0) [] x ∧ Whole W W3.heap.size 44 (refC n tt l 0 vv) ∧ Lows W W2.heap.size 71 vv ([].map (updL x.o (tickI x.n)))) ⟨HF3.out.1.quiet ((Below.refl _ _).alloc (Nat.le_refl _) _), Whole.new rfl rfl, HF3.out.2.rest ((Below.refl _ _).alloc (Nat.le_refl _) _)⟩ ?_
  intro W4 hF4
  have HF4 := Lib.hid hF4
  clear hF4
  have HBT := Lib.hid (h_beat W4.drew (HF4.out.1.quiet (below_drawnN (Below.refl _ _) 1)).hold HH.out.2.2.2.2.2.2 x.o x.n)
  have c0 : World.cell? W4 ⟨W3.heap.size, 0, none⟩ = some (.int .i64 n) := by rw [HF4.out.2.1.at_]; rfl
  have c1 : World.cell? W4 ⟨W3.heap.size, 1, none⟩ = some (.int .i64 tt) := by rw [HF4.out.2.1.at_]; rfl
  have c2 : World.cell? W4 ⟨W3.heap.size, 2, none⟩ = some (.int .i64 l) := by rw [HF4.out.2.1.at_]; rfl
  have c3 : World.cell? W4 ⟨W3.heap.size, 3, none⟩ = some (.int .i64 0) := by rw [HF4.out.2.1.at_]; rfl
  have c4 : World.cell? W4 ⟨W3.heap.size, 4, none⟩ = some (vv) := by rw [HF4.out.2.1.at_]; rfl
  have j0 : World.cell? W4 ⟨w.heap.size + 1, 3, none⟩ = some (.int .i64 x.o) := by rw [HF4.out.1.act.at_]; rfl
  have j1 : World.cell? W4 ⟨w.heap.size + 1, 4, none⟩ = some (.int .i64 x.n) := by rw [HF4.out.1.act.at_]; rfl
  have hn2 : ¬ W3.heap.size = w.heap.size + 1 + 1 := by have := HW3.out; omega
  have hn3 : ¬ w.heap.size + 1 = w.heap.size + 1 + 1 := by omega
  have o1 := rowOf_T n tt l 0 vv (by rw [HVV.out]; rfl)
  unfold refV at o1
  go_region_held3 (fun w' => w'.cell? ⟨W3.heap.size, 0, none⟩ = some (.int .i64 n) ∧ w'.cell? ⟨W3.heap.size, 1, none⟩ = some (.int .i64 tt) ∧ w'.cell? ⟨W3.heap.size, 2, none⟩ = some (.int .i64 l) ∧ w'.cell? ⟨W3.heap.size, 3, none⟩ = some (.int .i64 0) ∧ w'.cell? ⟨W3.heap.size, 4, none⟩ = some (vv) ∧ w'.cell? ⟨w.heap.size + 1, 3, none⟩ = some (.int .i64 x.o) ∧ w'.cell? ⟨w.heap.size + 1, 4, none⟩ = some (.int .i64 x.n)) (first | (simp only [cell_set_ne hn2, cell_set_ne hn3]; go_keep) | go_keep)
    (first | (go_at_call 13; refine HBT.out.mono ?_; rintro e W5 ⟨rfl, h5, hk5⟩
              have HF5 := Lib.hid (show Stepping w0 w W5 g b n tt l ep (L.map (updL x.o (tickI x.n))) 0 B (.slice none 0 0) [] x ∧ Whole W5 W3.heap.size 44 (refC n tt l 0 vv) ∧ Lows W5 W2.heap.size 71 vv ([].map (updL x.o (tickI x.n))) by
                have q := HF4.out.1.quiet (below_drawnN (Below.refl _ _) 1)
                have f := q.far
                have u := HF2.out.out.inside
                exact ⟨q.turned h5 hk5, kept_two HF4.out.2.1.drew hk5 (by have := HW3.out; omega) (by have := HW3.out; omega), Lows.keptTwo (HF4.out.2.2.kept (only_drawn (World.grownBy.refl W4 none)) (own_or vv)) hk5 (by omega) (by omega)⟩)
              clear h5 hk5
              have q0 : World.cell? W5 ⟨W3.heap.size, 0, none⟩ = some (.int .i64 n) := by rw [HF5.out.2.1.at_]; rfl
              have q1 : World.cell? W5 ⟨W3.heap.size, 1, none⟩ = some (.int .i64 tt) := by rw [HF5.out.2.1.at_]; rfl
              have q2 : World.cell? W5 ⟨W3.heap.size, 2, none⟩ = some (.int .i64 l) := by rw [HF5.out.2.1.at_]; rfl
              have q3 : World.cell? W5 ⟨W3.heap.size, 3, none⟩ = some (.int .i64 0) := by rw [HF5.out.2.1.at_]; rfl
              have q4 : World.cell? W5 ⟨W3.heap.size, 4, none⟩ = some (vv) := by rw [HF5.out.2.1.at_]; rfl
              have p0 : World.cell? W5 ⟨w.heap.size + 1, 3, none⟩ = some (.int .i64 x.o) := by rw [HF5.out.1.act.at_]; rfl
              have p1 : World.cell? W5 ⟨w.heap.size + 1, 4, none⟩ = some (.int .i64 x.n) := by rw [HF5.out.1.act.at_]; rfl
              have l6 : Lies W5 (.pointer (some ⟨w.heap.size + 1 + 1, 0, none⟩)) 5 := lies_of (m := 5) HF5.out.1.out rfl
              obtain ⟨F, hF⟩ : ∃ F, F = (World.setCells W5 (w.heap.size + 1 + 1) 0 [Value.int IntKind.i64 n, Value.int IntKind.i64 tt, Value.int IntKind.i64 l, Value.int IntKind.i64 0, vv]) := ⟨_, rfl⟩
              have HFX := Lib.hid hF
              clear hF))
  rw [← HFX.out]
  clear c0 c1 c2 c3 c4 j0 j1 q0 q1 q2 q3 q4 p0 p1 l6 o1 hn2 hn3
  go_wp2_with fail
  have hl := Stepping.left (n' := n) (tt' := tt) (l' := l) (e' := 0) (v' := vv) (HF5.out.1) HFX.out
  rw [HRR.out]
  exact bodyPost_ret_by (results_row_tmp (p := 6) (u := 7) rfl _ _ (w.heap.size + 1 + 1) 44 (refC n tt l 0 vv) (0, 0) _ rfl hl.2.2.1 Tryd.underlying44 rfl (by kernel_rfl)) rfl ⟨⟨_, _, rfl⟩, hl.1, hl.2.1⟩
end Go.Proofs.YtlkgdnmfgcmldaaDoor
