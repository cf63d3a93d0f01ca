/- The walk of LeasePlays: it answers true. -/
import Derived.Test.YtlkgdnmfgcmldaaDoorLea33
import Derived.Deep.QuietTactic
import Derived.BigQuiet
import Derived.Deep.DeepCutAuto
import Derived.Deep.RegionHeld3
import Derived.Deep.RegionWith
namespace Go.Proofs.YtlkgdnmfgcmldaaDoor
open Go.RowKit Go.Spk
set_option linter.unusedVariables false
attribute [local go_sem ↓] Go.wp_at_zero Go.wp_at_succ wp_stT
attribute [local go_sem] Lies.drew_is rowAt_drew Lies.set Lies.set_drew rowAt_set rowBlk_is
/-- A law's configuration, in its block. -/
structure CfgIn (c1 c2 c3 : Int) (w W : World) : Prop where
  below : Below w.heap.size w W
  row : Whole W w.heap.size 27 #[.int .i64 c1, .int .i64 c2, .int .i64 c3]
theorem CfgIn.quiet {c1 c2 c3 : Int} {w W W' : World} (h : CfgIn c1 c2 c3 w W) (hb : Below W.heap.size W W') : CfgIn c1 c2 c3 w W' :=
  ⟨h.below.trans (hb.mono h.below.size), h.row.below hb h.row.inside⟩
theorem CfgIn.drew {c1 c2 c3 : Int} {w W : World} (h : CfgIn c1 c2 c3 w W) : CfgIn c1 c2 c3 w W.drew := h.quiet (below_drawnN (Below.refl _ _) 1)
theorem CfgIn.alloc {c1 c2 c3 : Int} {w W : World} (h : CfgIn c1 c2 c3 w W) (o : Obj) : CfgIn c1 c2 c3 w (W.alloc o) := h.quiet ((Below.refl _ _).alloc (Nat.le_refl _) _)
def zeroT : Array Value := #[.int .i64 0, .int .i64 0, .int .i64 0, .int .i64 0, .slice none 0 0]
theorem lies_alloc (W : World) : Lies (W.alloc (.cells #[.int .i64 0, .int .i64 0, .int .i64 0, .int .i64 0, .slice none 0 0] 44)) (.pointer (some ⟨W.heap.size, 0, none⟩)) 5 = True :=
  eq_true (lies_of (cs := zeroT) (Whole.new rfl rfl) rfl)
theorem lies_alloc_drew (W : World) : Lies (W.drew.alloc (.cells #[.int .i64 0, .int .i64 0, .int .i64 0, .int .i64 0, .slice none 0 0] 44)) (.pointer (some ⟨W.heap.size, 0, none⟩)) 5 = True := lies_alloc W.drew
attribute [local go_sem] lies_alloc lies_alloc_drew
theorem hold_ne {w0 W : World} {g b q : Nat} {n tt l ep : Int} {L : List Lse} {cs : Array Value} (h : Hold w0 W g b n tt l ep L) (hq : Whole W q 44 cs) : g ≠ q ∧ b ≠ q := by
  constructor
  · intro e
    subst e
    have h1 : W.heap[g]? = some (.cells (tabC n tt l b ep) 60 (0, 0)) := h.row
    have h2 : W.heap[g]? = some (.cells cs 44 (0, 0)) := hq
    rw [h1] at h2
    have h3 := Option.some.inj h2
    injection h3 with _ h4 _
    exact absurd h4 (by decide)
  · intro e
    subst e
    obtain ⟨⟨_, S, ⟨es, clock, hc, F, hs, hD⟩, hp⟩, _, _⟩ := h.tab
    have h2 : W.heap[b]? = some (.cells cs 44 (0, 0)) := hq
    rw [hc] at h2
    have h3 := Option.some.inj h2
    cases h3
theorem hold_store {w0 W : World} {g b q : Nat} {n tt l ep : Int} {L : List Lse} {c0 : Array Value} (h : Hold w0 W g b n tt l ep L) (hq : Whole W q 44 c0) (hw : w0.heap.size ≤ q) (c : Array Value) (hc : c.size = c0.size) :
    Hold w0 (W.setCells q 0 c.toList) g b n tt l ep L ∧ Whole (W.setCells q 0 c.toList) q 44 c := by
  obtain ⟨h1, h2⟩ := hold_ne h hq
  exact ⟨h.kept (Kept2.of_only (only_set q _ 0 _) q) h1 h1 h2 h2 hw hw, fill_row hq hc⟩
theorem kept_cell {w w' : World} {g b B : Nat} (h : Kept2 w w' g b) (hB : B < w.heap.size) (h1 : B ≠ g) (h2 : B ≠ b) (o : Nat) : w'.cell? ⟨B, o, none⟩ = w.cell? ⟨B, o, none⟩ :=
  World.cell?_of_block (a := ⟨B, o, none⟩) (h.block B hB h1 h2)
/-- Both tables in the law's hands, alike. -/
def PlayI (w W : World) (g b q : Nat) (n tt l : Int) (B : Nat) (ep : Int) (L : List Lse) (v : Value) (k : Nat) : Prop :=
  Hold w W g b n tt l ep L ∧ Whole W q 44 (refC n tt l ep v) ∧ Lows W B 71 v L ∧ L.length ≤ k ∧ (0 ≤ ep ∧ ep ≤ (k : Int)) ∧ (g < B ∧ b < B ∧ q < B ∧ w.heap.size ≤ q ∧ B ≤ W.heap.size)
theorem PlayI.quiet {w W W' : World} {g b q : Nat} {n tt l : Int} {B : Nat} {ep : Int} {L : List Lse} {v : Value} {k : Nat} (h : PlayI w W g b q n tt l B ep L v k) (hb : Below W.heap.size W W') : PlayI w W' g b q n tt l B ep L v k := by
  obtain ⟨h1, h2, h3, h4, h5, h6⟩ := h
  have := hb.size
  exact ⟨h1.quiet hb, h2.below hb h2.inside, h3.rest hb, h4, h5, by omega⟩
theorem PlayI.stepped {w W W' F : World} {g b q : Nat} {n tt l : Int} {B : Nat} {ep : Int} {L : List Lse} {v v' : Value} {k : Nat} {x : Act} (h : PlayI w W g b q n tt l B ep L v k) (hh : Hold w W' g b n tt l (stepM n tt l ep L x).2 (stepM n tt l ep L x).1) (hl : Lows W' B 71 v' (stepM n tt l ep L x).1) (hk : Kept2 W W' g b)
    (hF : F = W'.setCells q 0 (refC n tt l (stepM n tt l ep L x).2 v').toList) : PlayI w F g b q n tt l B (stepM n tt l ep L x).2 (stepM n tt l ep L x).1 v' (k + 1) := by
  obtain ⟨h1, h2, h3, h4, h5, h6⟩ := h
  have hq : Whole W' q 44 (refC n tt l ep v) := kept_two h2 hk (Ne.symm (hold_ne h1 h2).1) (Ne.symm (hold_ne h1 h2).2)
  obtain ⟨k1, k2⟩ := hold_store hh hq h6.2.2.2.1 (refC n tt l (stepM n tt l ep L x).2 v') rfl
  obtain ⟨s1, s2, s3⟩ := stepM_ok n tt l ep x h1.asc h1.lasts
  have hs := hk.size
  subst hF
  have hg := only_set q (refC n tt l (stepM n tt l ep L x).2 v').toList 0 W'
  have hs2 := hg.size
  exact ⟨k1, k2, hl.kept hg (lows_ne hl hq), by omega, by omega, by omega⟩
set_option maxRecDepth 100000 in
set_option maxHeartbeats 8000000 in
theorem plays_calls (c1 c2 c3 : Int) (A : Option Addr) (xs : List Act) (cap : Nat) (hl : xs.length ≤ maxLen) (E : Nat → Addr) (w : World) (hX : ActsAt w A xs) (hE : Errs w E) :
    Calls Tryd.prog 4 #[.agg #[.int .i64 c1, .int .i64 c2, .int .i64 c3], .slice A xs.length cap] w fun e w' => e = .returned (.bool true) ∧ Below w.heap.size w w' := by
  have HE := Lib.hid hE; have HX := Lib.hid hX
  clear hE hX
  unfold maxLen at hl
  have hlI : (xs.length : Int) ≤ 9223372036854775807 := by omega
  clear hl
  go_enter Tryd.func4, Tryd.ntmps4
  go_wp2_with fail
  refine (awake_calls E _ (HE.out.below ((Below.refl _ _).alloc (Nat.le_refl _) _))).mono ?_
  rintro e W0 ⟨rfl, hb0⟩
  have H0 := Lib.hid (show Below w.heap.size w W0 ∧ Whole W0 w.heap.size 27 #[.int .i64 c1, .int .i64 c2, .int .i64 c3] from ⟨((Below.refl _ _).alloc (Nat.le_refl _) _).trans (hb0.mono (by simp)), Whole.below (Whole.new (w := w) rfl rfl) hb0 (by simp)⟩)
  clear hb0
  go_upto_region 3 with fail
  have k0 : W0.cell? ⟨w.heap.size, 0, none⟩ = some (.int .i64 c1) := by rw [H0.out.2.at_]; rfl
  have k1 : W0.cell? ⟨w.heap.size, 1, none⟩ = some (.int .i64 c2) := by rw [H0.out.2.at_]; rfl
  have k2 : W0.cell? ⟨w.heap.size, 2, none⟩ = some (.int .i64 c3) := by rw [H0.out.2.at_]; rfl
  obtain ⟨nm, hnm⟩ : ∃ nm, nm = max 0 (min c1 64) := ⟨_, rfl⟩
  obtain ⟨tm, htm⟩ : ∃ tm, tm = max 0 (min c2 4096) := ⟨_, rfl⟩
  obtain ⟨lf, hlf⟩ : ∃ lf, lf = max 1 (min c3 1073741824) := ⟨_, rfl⟩
  have HNUM := Lib.hid (And.intro hnm (And.intro htm hlf))
  have HI0 := Lib.hid (show CfgIn c1 c2 c3 w W0 from ⟨H0.out.1, H0.out.2⟩)
  have HNW := Lib.hid (show ∀ W, CfgIn c1 c2 c3 w W → Calls Tryd.prog 8 #[.agg #[.int .i64 c1, .int .i64 c2, .int .i64 c3]] W fun e w' =>
    ∃ g b, e = .returned (.pointer (some ⟨g, 0, none⟩)) ∧ Hold w w' g b nm tm lf 0 [] ∧ CfgIn c1 c2 c3 w w' ∧ Below W.heap.size W w' ∧ w'.cell? ⟨w.heap.size, 0, none⟩ = some (.int .i64 c1) ∧ w'.cell? ⟨w.heap.size, 1, none⟩ = some (.int .i64 c2) ∧ w'.cell? ⟨w.heap.size, 2, none⟩ = some (.int .i64 c3) by
    intro W hi
    refine (h_new w c1 c2 c3 W hi.below).mono ?_
    rintro e w' ⟨g, b, rfl, h1, h2, h3, h4⟩
    have hw := (hi.quiet h2).row
    exact ⟨g, b, rfl, by rw [hnm, htm, hlf]; exact h1, hi.quiet h2, h2, by rw [hw.at_]; rfl, by rw [hw.at_]; rfl, by rw [hw.at_]; rfl⟩)
  have HRN := Lib.hid (show ∀ W, CfgIn c1 c2 c3 w W → Calls Tryd.prog 14 #[.int .i64 c1, .int .i64 c2, .int .i64 c3] W fun e w' => e = .returned (.agg #[.int .i64 nm, .int .i64 tm, .int .i64 lf, .int .i64 0, .slice none 0 0]) ∧ CfgIn c1 c2 c3 w w' ∧ Below W.heap.size W w' ∧ w'.cell? ⟨w.heap.size, 0, none⟩ = some (.int .i64 c1) ∧ w'.cell? ⟨w.heap.size, 1, none⟩ = some (.int .i64 c2) ∧ w'.cell? ⟨w.heap.size, 2, none⟩ = some (.int .i64 c3) by
    intro W hi
    rw [hnm, htm, hlf]
    refine (rnew_calls c1 c2 c3 W).mono ?_
    rintro e w' ⟨rfl, h2⟩
    have hw := (hi.quiet h2).row
    exact ⟨rfl, hi.quiet h2, h2, by rw [hw.at_]; rfl, by rw [hw.at_]; rfl, by rw [hw.at_]; rfl⟩)
  clear hnm htm hlf
  have hnA : ¬ w.heap.size = W0.heap.size := by have := HI0.out.row.inside; omega
  have o1 := rowOf_T nm tm lf 0 (.slice none 0 0) rfl
  unfold refV at o1
  go_cut [5, 6] (fun s5 s6 wx => ∃ g b q : Nat, s5 = .pointer (some ⟨g, 0, none⟩) ∧ s6 = .pointer (some ⟨q, 0, none⟩) ∧ Hold w wx g b nm tm lf 0 [] ∧ Whole wx q 44 (refC nm tm lf 0 (.slice none 0 0)) ∧ w.heap.size ≤ q)
  case first =>
    go_region_held3 (fun W => W.cell? ⟨w.heap.size, 0, none⟩ = some (.int .i64 c1) ∧ W.cell? ⟨w.heap.size, 1, none⟩ = some (.int .i64 c2) ∧ W.cell? ⟨w.heap.size, 2, none⟩ = some (.int .i64 c3)) (first | (simp only [cell_set_ne hnC]; go_keep) | (simp only [cell_set_ne hnB]; go_keep) | (simp only [cell_set_ne hnA]; go_keep) | go_keep)
      (first
        | (go_at_call 8
           first
             | (refine (HNW.out _ HI0.out.drew).mono ?_
                rintro e W2 ⟨g1, b1, rfl, h1, h2, hb2, q0, q1, q2⟩
                have HA := Lib.hid trivial)
             | (refine (HNW.out _ (HI0.out.alloc _).drew).mono ?_
                rintro e W2 ⟨g1, b1, rfl, h1, h2, hb2, q0, q1, q2⟩
                have ha : Whole W2 W0.heap.size 44 zeroT := (Whole.new (w := W0) rfl rfl).drew.below hb2 (by simp)
                have la := lies_of (m := 5) ha rfl
                have HA := Lib.hid ha
                clear ha)
           have HP1 := Lib.hid (And.intro h1 h2)
           have hnB : ¬ w.heap.size = W2.heap.size := by have := h2.row.inside; omega
           clear h1 h2 hb2 k0 k1 k2)
        | (go_at_call 14
           first
             | (refine (HRN.out _ HP1.out.2).mono ?_
                rintro e W3 ⟨rfl, h3, hb3, r0, r1, r2⟩
                have HP2 := Lib.hid (HP1.out.1.quiet hb3)
                first
                  | (have ha := HA.out.below hb3 HA.out.inside
                     have la2 := lies_of (m := 5) ha rfl
                     have HB := Lib.hid ha
                     clear ha la)
                  | (have HB := Lib.hid trivial))
             | (refine (HRN.out _ (HP1.out.2.alloc _)).mono ?_
                rintro e W3 ⟨rfl, h3, hb3, r0, r1, r2⟩
                have HP2 := Lib.hid ((HP1.out.1.quiet ((Below.refl _ _).alloc (Nat.le_refl _) _)).quiet hb3)
                have ha : Whole W3 W2.heap.size 44 zeroT := Whole.below (Whole.new (w := W2) rfl rfl) hb3 (by simp)
                have la2 := lies_of (m := 5) ha rfl
                have HB := Lib.hid ha
                clear ha)
           have hnC : ¬ w.heap.size = W3.heap.size := by have := h3.row.inside; omega
           clear h3 hb3 q0 q1 q2))
    all_goals go_wp2_with fail
    all_goals go_meet
    all_goals
      have z0 := HI0.out.below.size
      have z2 := HP1.out.2.below.size
      have z3 := HP2.out.below.size
      first
        | (have h := hold_store HP2.out HB.out (by omega) (refC nm tm lf 0 (.slice none 0 0)) rfl
           exact ⟨g1, b1, _, rfl, rfl, h.1, h.2, by omega⟩)
        | (have h := hold_store (HP2.out.quiet ((Below.refl _ _).alloc (Nat.le_refl _) (.cells zeroT 44))) (Whole.new rfl rfl) (by omega) (refC nm tm lf 0 (.slice none 0 0)) rfl
           exact ⟨g1, b1, _, rfl, rfl, h.1, h.2, by omega⟩)
  case rest =>
    obtain ⟨g, b, q, rfl, rfl, hh, hq, hwq⟩ := hcut
    have HST := Lib.hid (show PlayI w wc g b q nm tm lf (World.heap wc).size 0 [] (.slice none 0 0) 0 from ⟨hh, hq, Lows.nil _ _ _, Nat.le_refl _, ⟨Int.le_refl _, Int.le_refl _⟩, hh.row.inside, hh.tab.lt, hq.inside, hwq, Nat.le_refl _⟩)
    obtain ⟨B, hB⟩ : ∃ B, B = (World.heap wc).size := ⟨_, rfl⟩
    rw [← hB] at HST
    clear hh hq hwq k0 k1 k2 o1 hnA hB
    go_wp2_with fail
    go_loopg [7, 8] 120 (fun gn s7 i wr => ∃ (k : Nat) (bb : Bool) (ep : Int) (L : List Lse) (v : Value), gn + k = 120 ∧ i = .int .i64 k ∧ s7 = .bool bb ∧ PlayI w wr g b q nm tm lf B ep L v k)
    case atStart => exact ⟨0, false, 0, [], _, rfl, rfl, rfl, HST.out⟩
    case round =>
      obtain ⟨k, bb, ep, L, v, hgk, rfl, rfl, hpl⟩ := hrel
      have HPL := Lib.hid (And.intro hpl hgk)
      clear hpl
      by_cases hin : k < xs.length ∧ k < 120
      · obtain ⟨hkz, hk120⟩ := hin
        have hi1 : (k : Int) < xs.length := by omega
        have hi2 : (k : Int) < 120 := by omega
        obtain ⟨x, hx⟩ : ∃ x, xs[k]? = some x := ⟨xs[k], List.getElem?_eq_getElem hkz⟩
        have HXX := Lib.hid hx
        obtain ⟨hs1, hs2, Bx, ox, rfl, hBx, hc0⟩ := HX.out k x hx
        have hc : ∀ (j : Nat) (u : Value), (actC x)[j]? = some u → World.cell? wr ⟨Bx, ox + k * 5 + j, none⟩ = some u := fun j u hj => (HPL.out.1.1.below.cell (p := ⟨Bx, ox + k * 5 + j, none⟩) hBx).trans (hc0 j u hj)
        have HS := Lib.hid (And.intro hs1 (And.intro hs2 hBx))
        have e0 : World.cell? wr ⟨Bx, ox + k * 5, none⟩ = some (.int .i64 x.k) := hc 0 _ rfl
        have e1 : World.cell? wr ⟨Bx, ox + k * 5 + 1, none⟩ = some (.string x.t) := hc 1 _ rfl
        have e2 : World.cell? wr ⟨Bx, ox + k * 5 + 2, none⟩ = some (.string x.a) := hc 2 _ rfl
        have e3 : World.cell? wr ⟨Bx, ox + k * 5 + 3, none⟩ = some (.int .i64 x.o) := hc 3 _ rfl
        have e4 : World.cell? wr ⟨Bx, ox + k * 5 + 4, none⟩ = some (.int .i64 x.n) := hc 4 _ rfl
        have c0 : World.cell? wr ⟨q, 0, none⟩ = some (.int .i64 nm) := by rw [HPL.out.1.2.1.at_]; rfl
        have c1 : World.cell? wr ⟨q, 1, none⟩ = some (.int .i64 tm) := by rw [HPL.out.1.2.1.at_]; rfl
        have c2 : World.cell? wr ⟨q, 2, none⟩ = some (.int .i64 lf) := by rw [HPL.out.1.2.1.at_]; rfl
        have c3 : World.cell? wr ⟨q, 3, none⟩ = some (.int .i64 ep) := by rw [HPL.out.1.2.1.at_]; rfl
        have c4 : World.cell? wr ⟨q, 4, none⟩ = some (v) := by rw [HPL.out.1.2.1.at_]; rfl
        have HG := Lib.hid hgk
        have HKZ := Lib.hid (And.intro hkz hk120)
        clear hx hc hc0 hs1 hs2 hBx hgk hkz hk120
        have HSP := Lib.hid (show Calls Tryd.prog 15 #[.pointer (some ⟨g, 0, none⟩), .agg #[.int .i64 nm, .int .i64 tm, .int .i64 lf, .int .i64 ep, v], .agg #[.int .i64 x.k, .string x.t, .string x.a, .int .i64 x.o, .int .i64 x.n]] wr.drew (StepP w wr.drew g b nm tm lf B (stepM nm tm lf ep L x)) by
          obtain ⟨h1, h2, h3, h4, h5, h6⟩ := HPL.out.1.quiet (below_drawnN (Below.refl _ _) 1)
          have hg := HG.out
          exact step_plays E w wr.drew g b nm tm lf ep L B v x ⟨HS.out.1, HS.out.2.1⟩ (by omega) (by omega) HE.out ⟨h6.1, h6.2.1, h6.2.2.2.2⟩ h1 h3)
        have hnq : ¬ Bx = q := by have := HS.out.2.2; have := HPL.out.1.2.2.2.2.2; omega
        go_upto_region 10 with fail
        go_cut [7, 22] (fun s7 s22 wx => s7 = .bool true ∧ ∃ ep2 L2 v2, PlayI w wx g b q nm tm lf B ep2 L2 v2 (k + 1))
        case first =>
          go_region_with
            ((first
            | (go_at_call 15; refine HSP.out.mono ?_; rintro en W5 ⟨⟨v', rfl, hl5⟩, h5, hk5⟩
               have HK5 := Lib.hid (show Kept2 wr W5 g b from (Kept2.of_below (below_drawnN (Below.refl wr.heap.size wr) 1) g b).trans hk5)
               have HH5 := Lib.hid (And.intro h5 hl5)
               have HQ5 := Lib.hid (kept_two HPL.out.1.2.1 HK5.out (Ne.symm (hold_ne HPL.out.1.1 HPL.out.1.2.1).1) (Ne.symm (hold_ne HPL.out.1.1 HPL.out.1.2.1).2))
               clear h5 hl5 hk5
               obtain ⟨ep2, hep2⟩ : ∃ ep2, ep2 = (stepM nm tm lf ep L x).2 := ⟨_, rfl⟩
               obtain ⟨A', c', hv'⟩ := HH5.out.2.lens
               have HV2 := Lib.hid hv'
               have HEP := Lib.hid hep2
               rw [← hep2]
               have q0 : World.cell? W5 ⟨q, 0, none⟩ = some (.int .i64 nm) := by rw [HQ5.out.at_]; rfl
               have q1 : World.cell? W5 ⟨q, 1, none⟩ = some (.int .i64 tm) := by rw [HQ5.out.at_]; rfl
               have q2 : World.cell? W5 ⟨q, 2, none⟩ = some (.int .i64 lf) := by rw [HQ5.out.at_]; rfl
               have q3 : World.cell? W5 ⟨q, 3, none⟩ = some (.int .i64 ep) := by rw [HQ5.out.at_]; rfl
               have q4 : World.cell? W5 ⟨q, 4, none⟩ = some (v) := by rw [HQ5.out.at_]; rfl
               have p0 : World.cell? W5 ⟨Bx, ox + k * 5, none⟩ = some (.int .i64 x.k) := (kept_cell HK5.out (by have := HS.out.2.2; have := HPL.out.1.1.below.size; omega) (by have := HS.out.2.2; have := HPL.out.1.1.lg; omega) (by have := HS.out.2.2; have := HPL.out.1.1.lb; omega) _).trans e0
               have p1 : World.cell? W5 ⟨Bx, ox + k * 5 + 1, none⟩ = some (.string x.t) := (kept_cell HK5.out (by have := HS.out.2.2; have := HPL.out.1.1.below.size; omega) (by have := HS.out.2.2; have := HPL.out.1.1.lg; omega) (by have := HS.out.2.2; have := HPL.out.1.1.lb; omega) _).trans e1
               have p2 : World.cell? W5 ⟨Bx, ox + k * 5 + 2, none⟩ = some (.string x.a) := (kept_cell HK5.out (by have := HS.out.2.2; have := HPL.out.1.1.below.size; omega) (by have := HS.out.2.2; have := HPL.out.1.1.lg; omega) (by have := HS.out.2.2; have := HPL.out.1.1.lb; omega) _).trans e2
               have p3 : World.cell? W5 ⟨Bx, ox + k * 5 + 3, none⟩ = some (.int .i64 x.o) := (kept_cell HK5.out (by have := HS.out.2.2; have := HPL.out.1.1.below.size; omega) (by have := HS.out.2.2; have := HPL.out.1.1.lg; omega) (by have := HS.out.2.2; have := HPL.out.1.1.lb; omega) _).trans e3
               have p4 : World.cell? W5 ⟨Bx, ox + k * 5 + 4, none⟩ = some (.int .i64 x.n) := (kept_cell HK5.out (by have := HS.out.2.2; have := HPL.out.1.1.below.size; omega) (by have := HS.out.2.2; have := HPL.out.1.1.lg; omega) (by have := HS.out.2.2; have := HPL.out.1.1.lb; omega) _).trans e4
               have l6 : Lies W5 (.pointer (some ⟨q, 0, none⟩)) 5 := lies_of (m := 5) HQ5.out rfl
               have o1 := rowOf_T nm tm lf ep2 v' (by rw [hv']; rfl)
               unfold refV at o1 ⊢
               obtain ⟨F, hF⟩ : ∃ F, F = World.setCells W5 q 0 [Value.int IntKind.i64 nm, Value.int IntKind.i64 tm, Value.int IntKind.i64 lf, Value.int IntKind.i64 ep2, v'] := ⟨_, rfl⟩
               have HFX := Lib.hid hF
               clear hF hep2 hv' e0 e1 e2 e3 e4 c0 c1 c2 c3 c4)))
          all_goals clear q0 q1 q2 q3 q4 p0 p1 p2 p3 p4 l6 o1
          all_goals go_simp
          all_goals rw [← HFX.out]
          all_goals go_wp2_with fail
          all_goals go_meet
          all_goals exact ⟨rfl, ep2, (stepM nm tm lf ep L x).1, v', by have h := HPL.out.1.stepped HH5.out.1 HH5.out.2 HK5.out (F := F) (by rw [HFX.out, HEP.out]; rfl); rw [← HEP.out] at h; exact h⟩
        case rest =>
        obtain ⟨rfl, ep2, L2, v2, hpf⟩ := hcut
        have HPF := Lib.hid hpf
        have HL2 := Lib.hid (show L2.length ≤ 100000 by have := hpf.2.2.2.1; have := HKZ.out.2; omega)
        clear hpf e0 e1 e2 e3 e4 c0 c1 c2 c3 c4 hnq
        have e1 : World.cell? wc ⟨Bx, ox + k * 5 + 1, none⟩ = some (.string x.t) := by
          obtain ⟨_, _, B1, o1, hA1, hB1, hc1⟩ := HX.out k x HXX.out
          cases hA1
          exact (HPF.out.1.below.cell (p := ⟨Bx, ox + k * 5 + 1, none⟩) hB1).trans (hc1 1 _ rfl)
        go_upto_region 11 with fail
        have HACT := Lib.hid (show ∀ W', Below w.heap.size w W' → W'.cell? ⟨Bx, ox + k * 5 + 1, none⟩ = some (.string x.t) from fun W' hb => by
          obtain ⟨_, _, B1, o1, hA1, hB1, hc1⟩ := HX.out k x HXX.out
          cases hA1
          exact (hb.cell (p := ⟨Bx, ox + k * 5 + 1, none⟩) hB1).trans (hc1 1 _ rfl))
        have c0 : World.cell? wc ⟨q, 0, none⟩ = some (.int .i64 nm) := by rw [HPF.out.2.1.at_]; rfl
        have c1 : World.cell? wc ⟨q, 1, none⟩ = some (.int .i64 tm) := by rw [HPF.out.2.1.at_]; rfl
        have c2 : World.cell? wc ⟨q, 2, none⟩ = some (.int .i64 lf) := by rw [HPF.out.2.1.at_]; rfl
        have c3 : World.cell? wc ⟨q, 3, none⟩ = some (.int .i64 ep2) := by rw [HPF.out.2.1.at_]; rfl
        have c4 : World.cell? wc ⟨q, 4, none⟩ = some (v2) := by rw [HPF.out.2.1.at_]; rfl
        have HAL := Lib.hid (h_all (World.drew wc) (HPF.out.quiet (below_drawnN (Below.refl _ _) 1)).1 HL2.out)
        go_cut [22, 68] (fun s22 s68 wx => s68 = .bool false ∧ PlayI w wx g b q nm tm lf B ep2 L2 v2 (k + 1))
        case first =>
          go_region_held3 (fun w' => w'.cell? ⟨q, 0, none⟩ = some (.int .i64 nm) ∧ w'.cell? ⟨q, 1, none⟩ = some (.int .i64 tm) ∧ w'.cell? ⟨q, 2, none⟩ = some (.int .i64 lf) ∧ w'.cell? ⟨q, 3, none⟩ = some (.int .i64 ep2) ∧ w'.cell? ⟨q, 4, none⟩ = some (v2) ∧ w'.cell? ⟨Bx, ox + k * 5 + 1, none⟩ = some (.string x.t)) (go_keep)
            (first
            | (go_at_call 17; refine HAL.out.mono ?_; rintro en W6 ⟨v6, rfl, hl6, h6, hb6⟩
               have HP6 := Lib.hid ((HPF.out.quiet (below_drawnN (Below.refl _ _) 1)).quiet hb6)
               have HL6 := Lib.hid hl6
               clear hl6 h6 hb6
               have q0 : World.cell? W6 ⟨q, 0, none⟩ = some (.int .i64 nm) := by rw [HP6.out.2.1.at_]; rfl
               have q1 : World.cell? W6 ⟨q, 1, none⟩ = some (.int .i64 tm) := by rw [HP6.out.2.1.at_]; rfl
               have q2 : World.cell? W6 ⟨q, 2, none⟩ = some (.int .i64 lf) := by rw [HP6.out.2.1.at_]; rfl
               have q3 : World.cell? W6 ⟨q, 3, none⟩ = some (.int .i64 ep2) := by rw [HP6.out.2.1.at_]; rfl
               have q4 : World.cell? W6 ⟨q, 4, none⟩ = some (v2) := by rw [HP6.out.2.1.at_]; rfl
               have qa : World.cell? W6 ⟨Bx, ox + k * 5 + 1, none⟩ = some (.string x.t) := HACT.out _ HP6.out.1.below
               clear c0 c1 c2 c3 c4 e1
               skip)
            | (go_at_call 16; refine (same_calls _ _ _ _ L2 L2 HL2.out HL2.out _ HL6.out HP6.out.2.2.1).mono ?_; rintro en W7 ⟨rfl, hb7⟩
               rw [sameL_self]
               have HP7 := Lib.hid (HP6.out.quiet hb7)
               clear hb7
               have r0 : World.cell? W7 ⟨q, 0, none⟩ = some (.int .i64 nm) := by rw [HP7.out.2.1.at_]; rfl
               have r1 : World.cell? W7 ⟨q, 1, none⟩ = some (.int .i64 tm) := by rw [HP7.out.2.1.at_]; rfl
               have r2 : World.cell? W7 ⟨q, 2, none⟩ = some (.int .i64 lf) := by rw [HP7.out.2.1.at_]; rfl
               have r3 : World.cell? W7 ⟨q, 3, none⟩ = some (.int .i64 ep2) := by rw [HP7.out.2.1.at_]; rfl
               have r4 : World.cell? W7 ⟨q, 4, none⟩ = some (v2) := by rw [HP7.out.2.1.at_]; rfl
               have ra : World.cell? W7 ⟨Bx, ox + k * 5 + 1, none⟩ = some (.string x.t) := HACT.out _ HP7.out.1.below
               clear q0 q1 q2 q3 q4 qa
               skip)
            | (go_at_call 18; refine (h_count _ HP7.out.1 HL2.out x.t).mono ?_; rintro en W8 ⟨rfl, h8, hb8⟩
               have HP8 := Lib.hid (HP7.out.quiet hb8)
               clear h8 hb8
               have s0 : World.cell? W8 ⟨q, 0, none⟩ = some (.int .i64 nm) := by rw [HP8.out.2.1.at_]; rfl
               have s1 : World.cell? W8 ⟨q, 1, none⟩ = some (.int .i64 tm) := by rw [HP8.out.2.1.at_]; rfl
               have s2 : World.cell? W8 ⟨q, 2, none⟩ = some (.int .i64 lf) := by rw [HP8.out.2.1.at_]; rfl
               have s3 : World.cell? W8 ⟨q, 3, none⟩ = some (.int .i64 ep2) := by rw [HP8.out.2.1.at_]; rfl
               have s4 : World.cell? W8 ⟨q, 4, none⟩ = some (v2) := by rw [HP8.out.2.1.at_]; rfl
               have sa : World.cell? W8 ⟨Bx, ox + k * 5 + 1, none⟩ = some (.string x.t) := HACT.out _ HP8.out.1.below
               clear r0 r1 r2 r3 r4 ra
               skip)
            | (go_at_call 19; refine (rcount_calls nm tm lf ep2 B v2 L2 HL2.out x.t _ HP8.out.2.2.1).mono ?_; rintro en W9 ⟨rfl, hb9⟩
               have HP9 := Lib.hid (HP8.out.quiet hb9)
               clear hb9
               have u0 : World.cell? W9 ⟨q, 0, none⟩ = some (.int .i64 nm) := by rw [HP9.out.2.1.at_]; rfl
               have u1 : World.cell? W9 ⟨q, 1, none⟩ = some (.int .i64 tm) := by rw [HP9.out.2.1.at_]; rfl
               have u2 : World.cell? W9 ⟨q, 2, none⟩ = some (.int .i64 lf) := by rw [HP9.out.2.1.at_]; rfl
               have u3 : World.cell? W9 ⟨q, 3, none⟩ = some (.int .i64 ep2) := by rw [HP9.out.2.1.at_]; rfl
               have u4 : World.cell? W9 ⟨q, 4, none⟩ = some (v2) := by rw [HP9.out.2.1.at_]; rfl
               have ua : World.cell? W9 ⟨Bx, ox + k * 5 + 1, none⟩ = some (.string x.t) := HACT.out _ HP9.out.1.below
               clear s0 s1 s2 s3 s4 sa
               skip))
          go_wp2_with fail
          go_meet
          exact ⟨rfl, HP9.out⟩
        case rest =>
          obtain ⟨rfl, hpf⟩ := hcut
          have HPG := Lib.hid hpf
          clear hpf e1 c0 c1 c2 c3 c4
          go_wp2_with fail
          go_roundg (120 - (k + 1))
          case measure => have := HG.out; omega
          case rel => exact ⟨k + 1, true, ep2, L2, v2, by have := HG.out; omega, by go_num, rfl, HPG.out⟩
      · have HIN := Lib.hid hin
        by_cases hi1 : (k : Int) < xs.length
        · have hi2 : ¬ (k : Int) < 120 := by have := HIN.out; omega
          have hi3 : decide ((k : Int) < 120) = false := by simp; omega
          go_wp2_with fail
          go_ret
          exact ⟨rfl, HPL.out.1.1.below⟩
        · have hi3 : decide ((k : Int) < xs.length) = false := by simp; omega
          go_wp2_with fail
          go_ret
          exact ⟨rfl, HPL.out.1.1.below⟩
end Go.Proofs.YtlkgdnmfgcmldaaDoor
