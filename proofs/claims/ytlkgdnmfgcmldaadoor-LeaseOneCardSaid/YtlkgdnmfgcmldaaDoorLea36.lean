/- The walk of LeaseOne: it answers true. -/
import Derived.Test.YtlkgdnmfgcmldaaDoorLea34
import Derived.Test.YtlkgdnmfgcmldaaDoorLea35
import Derived.Test.YtlkgdnmfgcmldaaDoorSpQ1
import Derived.Test.YtlkgdnmfgcmldaaDoorSpQ2
import Derived.Test.YtlkgdnmfgcmldaaDoorSpQ3
import Derived.Test.YtlkgdnmfgcmldaaDoorSpQ4
import Derived.Test.YtlkgdnmfgcmldaaDoorSpQ5
import Derived.Deep.QuietTactic
import Derived.IntWalk
import Derived.BigQuiet
import Derived.Deep.DeepCutAuto
import Derived.Deep.RegionHeld3
import Derived.Deep.RegionWith
namespace Go.Proofs.YtlkgdnmfgcmldaaDoor
open Go.RowKit Go.Spk
set_option linter.unusedVariables false
attribute [local go_sem ↓] Go.wp_at_zero Go.wp_at_succ wp_stT
attribute [local go_sem] Lies.drew_is rowAt_drew Lies.set Lies.set_drew rowAt_set rowBlk_is
attribute [local go_sem] lies_alloc lies_alloc_drew
section
variable {d : Tmp} {x y : Operand} {ty : TypeId} {pos : String} {after : Array Edge} {gd : Option (Nat × Bool)} {a : Go.Act} {w : World} {K : Go.Act → World → Prop} {Q : Exit → Go.Act → World → Prop}
theorem wp_stL (hx : Lies w (a.eval x) 5) (hy : RowOf 5 (a.eval y)) : Oper.wp Tryd.prog ⟨none, .store 29 x y, ty, pos, after, gd⟩ a w K Q = K (a.put none undef) (w.setCells (rowBlk (a.eval x)) 0 (a.eval y).cells.toList) := by
  have h := st_row (P := Tryd.prog) 29 5 (by kernel_rfl) w _ _ hx hy
  unfold Oper.wp
  simp only [execOp, Sem.run_bind, h, Result.andThen_ok, Sem.run_pure]
  rfl
end
def zeroL : Array Value := #[.string ⟨#[]⟩, .string ⟨#[]⟩, .int .i64 0, .int .i64 0, .int .i64 0]
theorem liesL_alloc (W : World) : Lies (W.alloc (.cells #[.string ⟨#[]⟩, .string ⟨#[]⟩, .int .i64 0, .int .i64 0, .int .i64 0] 29)) (.pointer (some ⟨W.heap.size, 0, none⟩)) 5 = True :=
  eq_true (lies_of (cs := zeroL) (Whole.new rfl rfl) rfl)
theorem liesL_alloc_drew (W : World) : Lies (W.drew.alloc (.cells #[.string ⟨#[]⟩, .string ⟨#[]⟩, .int .i64 0, .int .i64 0, .int .i64 0] 29)) (.pointer (some ⟨W.heap.size, 0, none⟩)) 5 = True := liesL_alloc W.drew
attribute [local go_sem ↓] wp_stL
attribute [local go_sem] liesL_alloc liesL_alloc_drew
theorem step_one (E : Nat → Addr) (w0 w : World) (g b : Nat) (n tt l ep : Int) (L : List Lse) (B : Nat) (x : Act) (hx : x.t.size ≤ maxLen ∧ x.a.size ≤ maxLen) (hL : L.length ≤ 100000) (he : 0 ≤ ep ∧ ep ≤ 1000000) (hE : Errs w0 E) (hB : g < B ∧ b < B ∧ B ≤ w.heap.size) (hH : Hold w0 w g b n tt l ep L) (hk : 1 ≤ x.k ∧ x.k ≤ 5) :
    Calls Tryd.prog 15 #[.pointer (some ⟨g, 0, none⟩), refV n tt l 0 (.slice none 0 0), .agg (actC x).toArray] w (StepQ w0 w g b n tt l (stepM n tt l ep L x)) := by
  by_cases h1 : x.k = 1
  · exact step1Q E w0 w g b n tt l ep L B x hx hL he hE hB hH h1
  by_cases h2 : x.k = 2
  · exact step2Q E w0 w g b n tt l ep L B x hx hL he hE hB hH h2
  by_cases h3 : x.k = 3
  · exact step3Q E w0 w g b n tt l ep L B x hx hL he hE hB hH h3
  by_cases h4 : x.k = 4
  · exact step4Q E w0 w g b n tt l ep L B x hx hL he hE hB hH h4
  · exact step5Q E w0 w g b n tt l ep L B x hx hL he hE hB hH (by omega)
/-- The table, and the reference's at first, in the law's hands. -/
def OneW (w W : World) (g b q : Nat) (n tt l : Int) (B : Nat) (ep : Int) (L : List Lse) (k : Nat) : Prop :=
  Hold w W g b n tt l ep L ∧ Whole W q 44 (refC n tt l 0 (.slice none 0 0)) ∧ OneI n tt ep L ∧ L.length ≤ k ∧ (0 ≤ ep ∧ ep ≤ (k : Int)) ∧ (g < B ∧ b < B ∧ q < B ∧ w.heap.size ≤ q ∧ B ≤ W.heap.size)
theorem OneW.quiet {w W W' : World} {g b q : Nat} {n tt l : Int} {B : Nat} {ep : Int} {L : List Lse} {k : Nat} (h : OneW w W g b q n tt l B ep L k) (hb : Below W.heap.size W W') : OneW w W' g b q n tt l B ep L k := by
  obtain ⟨h1, h2, h3, h4, h5, h6⟩ := h
  have := hb.size
  exact ⟨h1.quiet hb, h2.below hb h2.inside, h3, h4, h5, by omega⟩
theorem OneW.far {w W F : World} {g b q p : Nat} {n tt l : Int} {B : Nat} {ep : Int} {L : List Lse} {k : Nat} (h : OneW w W g b q n tt l B ep L k) (hg : W.grownBy F (some p)) (hp : B ≤ p) : OneW w F g b q n tt l B ep L k := by
  obtain ⟨h1, h2, h3, h4, h5, h6⟩ := h
  have := hg.size
  exact ⟨h1.kept (Kept2.of_only hg p) (by omega) (by omega) (by omega) (by omega) (by omega) (by omega), h2.only hg (ne_some (by omega)), h3, h4, h5, by omega⟩
theorem OneW.turned {w W W' : World} {g b q : Nat} {n tt l : Int} {B : Nat} {ep ep' : Int} {L L' : List Lse} {k : Nat} (h : OneW w W g b q n tt l B ep L k) (hh : Hold w W' g b n tt l ep' L') (hk : Kept2 W W' g b) (ho : OneI n tt ep' L') (hl : L'.length ≤ L.length + 1) (he : ep ≤ ep' ∧ ep' ≤ ep + 1) : OneW w W' g b q n tt l B ep' L' (k + 1) := by
  obtain ⟨h1, h2, h3, h4, h5, h6⟩ := h
  have := hk.size
  exact ⟨hh, kept_two h2 hk (Ne.symm (hold_ne h1 h2).1) (Ne.symm (hold_ne h1 h2).2), ho, by omega, by omega, by omega⟩
theorem neq_lease20 (x y : Lse) (w : World) : (binOp .neq 29 (.agg (lseC x).toArray) (.agg (lseC y).toArray)).run Tryd.prog w = .ok (.bool (!eqL x y)) w := by
  have u3 := Tryd.underlying3
  have a3 := Tryd.isAgg3
  have z3 := Tryd.sizeOf3
  have u9 := Tryd.underlying9
  have a9 := Tryd.isAgg9
  have z9 := Tryd.sizeOf9
  have hS : Tryd.prog.underlying 29 = some (.struct (Tryd.prog.fieldsOf 29)) := by kernel_rfl
  have hp : Tryd.prog.stoodInHeld 29 = false := by kernel_rfl
  simp only [lseC]
  rw [run_neq_struct, show (10000 : Nat) = 9999 + 1 from rfl, run_equalIn_agg w 9999 29 _ _ hS hp]
  simp only [Program.fieldsOf, Tryd.underlying29]
  go_simp
  unfold eqL
  simp only [tl_eq]
  by_cases h1 : x.t = y.t <;> by_cases h2 : x.a = y.a <;> by_cases h3 : x.o = y.o <;> by_cases h4 : x.e = y.e <;> by_cases h5 : x.l = y.l <;> simp [h1, h2, h3, h4, h5]
theorem asc_facts {z y : Lse} (h : ltL z y = true) : Op.bytesLess y.t.toList z.t.toList = false ∧ ((z.t.toList == y.t.toList) = false ∧ Op.bytesLess z.t.toList y.t.toList = true ∨ ((z.t.toList == y.t.toList) = true ∧ Op.bytesLess z.a.toList y.a.toList = true)) := by
  have ha : ¬ y.t.data.toList < z.t.data.toList := fun hlt => by
    have h2 : ltN y.t y.a z.t z.a = true := by unfold ltN; simp [hlt]
    have h3 := ltN_asymm h2
    unfold ltL at h
    rw [h] at h3
    cases h3
  refine ⟨not_less ha, ?_⟩
  by_cases he : z.t = y.t
  · refine .inr ⟨same_str he, less_of ?_⟩
    unfold ltL ltN at h
    rw [he] at h ha
    simpa [ha] using h
  · refine .inl ⟨str_ne he, less_of ?_⟩
    unfold ltL ltN at h
    simpa [he] using h
set_option maxRecDepth 100000 in
set_option maxHeartbeats 8000000 in
theorem one_calls (c1 c2 c3 : Int) (A : Option Addr) (xs : List Act) (cap : Nat) (hl : xs.length ≤ maxLen) (E : Nat → Addr) (w : World) (hX : ActsAt w A xs) (hE : Errs w E) :
    Calls Tryd.prog 5 #[.agg #[.int .i64 c1, .int .i64 c2, .int .i64 c3], .slice A xs.length cap] w fun e w' => e = .returned (.bool true) ∧ Below w.heap.size w w' := by
  have HE := Lib.hid hE; have HX := Lib.hid hX
  clear hE hX
  unfold maxLen at hl
  have hlI : (xs.length : Int) ≤ 9223372036854775807 := by omega
  clear hl
  go_enter Tryd.func5, Tryd.ntmps5
  go_wp2_with fail
  refine (awake_calls E _ (HE.out.below ((Below.refl _ _).alloc (Nat.le_refl _) _))).mono ?_
  rintro e W0 ⟨rfl, hb0⟩
  have H0 := Lib.hid (show Below w.heap.size w W0 ∧ Whole W0 w.heap.size 27 #[.int .i64 c1, .int .i64 c2, .int .i64 c3] from ⟨((Below.refl _ _).alloc (Nat.le_refl _) _).trans (hb0.mono (by simp)), Whole.below (Whole.new (w := w) rfl rfl) hb0 (by simp)⟩)
  clear hb0
  go_upto_region 3 with fail
  have k0 : W0.cell? ⟨w.heap.size, 0, none⟩ = some (.int .i64 c1) := by rw [H0.out.2.at_]; rfl
  have k1 : W0.cell? ⟨w.heap.size, 1, none⟩ = some (.int .i64 c2) := by rw [H0.out.2.at_]; rfl
  have k2 : W0.cell? ⟨w.heap.size, 2, none⟩ = some (.int .i64 c3) := by rw [H0.out.2.at_]; rfl
  obtain ⟨nm, hnm⟩ : ∃ nm, nm = max 0 (min c1 64) := ⟨_, rfl⟩
  obtain ⟨tm, htm⟩ : ∃ tm, tm = max 0 (min c2 4096) := ⟨_, rfl⟩
  obtain ⟨lf, hlf⟩ : ∃ lf, lf = max 1 (min c3 1073741824) := ⟨_, rfl⟩
  have HNUM := Lib.hid (And.intro hnm (And.intro htm hlf))
  have HI0 := Lib.hid (show CfgIn c1 c2 c3 w W0 from ⟨H0.out.1, H0.out.2⟩)
  have HNW := Lib.hid (show ∀ W, CfgIn c1 c2 c3 w W → Calls Tryd.prog 8 #[.agg #[.int .i64 c1, .int .i64 c2, .int .i64 c3]] W fun e w' =>
    ∃ g b, e = .returned (.pointer (some ⟨g, 0, none⟩)) ∧ Hold w w' g b nm tm lf 0 [] ∧ CfgIn c1 c2 c3 w w' ∧ Below W.heap.size W w' ∧ w'.cell? ⟨w.heap.size, 0, none⟩ = some (.int .i64 c1) ∧ w'.cell? ⟨w.heap.size, 1, none⟩ = some (.int .i64 c2) ∧ w'.cell? ⟨w.heap.size, 2, none⟩ = some (.int .i64 c3) by
    intro W hi
    refine (h_new w c1 c2 c3 W hi.below).mono ?_
    rintro e w' ⟨g, b, rfl, h1, h2, h3, h4⟩
    have hw := (hi.quiet h2).row
    exact ⟨g, b, rfl, by rw [hnm, htm, hlf]; exact h1, hi.quiet h2, h2, by rw [hw.at_]; rfl, by rw [hw.at_]; rfl, by rw [hw.at_]; rfl⟩)
  have HRN := Lib.hid (show ∀ W, CfgIn c1 c2 c3 w W → Calls Tryd.prog 14 #[.int .i64 c1, .int .i64 c2, .int .i64 c3] W fun e w' => e = .returned (.agg #[.int .i64 nm, .int .i64 tm, .int .i64 lf, .int .i64 0, .slice none 0 0]) ∧ CfgIn c1 c2 c3 w w' ∧ Below W.heap.size W w' ∧ w'.cell? ⟨w.heap.size, 0, none⟩ = some (.int .i64 c1) ∧ w'.cell? ⟨w.heap.size, 1, none⟩ = some (.int .i64 c2) ∧ w'.cell? ⟨w.heap.size, 2, none⟩ = some (.int .i64 c3) by
    intro W hi
    rw [hnm, htm, hlf]
    refine (rnew_calls c1 c2 c3 W).mono ?_
    rintro e w' ⟨rfl, h2⟩
    have hw := (hi.quiet h2).row
    exact ⟨rfl, hi.quiet h2, h2, by rw [hw.at_]; rfl, by rw [hw.at_]; rfl, by rw [hw.at_]; rfl⟩)
  clear hnm htm hlf
  have hnA : ¬ w.heap.size = W0.heap.size := by have := HI0.out.row.inside; omega
  have o1 := rowOf_T nm tm lf 0 (.slice none 0 0) rfl
  unfold refV at o1
  go_cut [5, 6] (fun s5 s6 wx => ∃ g b q : Nat, s5 = .pointer (some ⟨g, 0, none⟩) ∧ s6 = .pointer (some ⟨q, 0, none⟩) ∧ Hold w wx g b nm tm lf 0 [] ∧ Whole wx q 44 (refC nm tm lf 0 (.slice none 0 0)) ∧ w.heap.size ≤ q)
  case first =>
    as_aux_lemma =>
    go_region_held3 (fun W => W.cell? ⟨w.heap.size, 0, none⟩ = some (.int .i64 c1) ∧ W.cell? ⟨w.heap.size, 1, none⟩ = some (.int .i64 c2) ∧ W.cell? ⟨w.heap.size, 2, none⟩ = some (.int .i64 c3)) (first | (simp only [cell_set_ne hnC]; go_keep) | (simp only [cell_set_ne hnB]; go_keep) | (simp only [cell_set_ne hnA]; go_keep) | go_keep)
      (first
        | (go_at_call 8
           first
             | (refine (HNW.out _ HI0.out.drew).mono ?_
                rintro e W2 ⟨g1, b1, rfl, h1, h2, hb2, q0, q1, q2⟩
                have HA := Lib.hid trivial)
             | (refine (HNW.out _ (HI0.out.alloc _).drew).mono ?_
                rintro e W2 ⟨g1, b1, rfl, h1, h2, hb2, q0, q1, q2⟩
                have ha : Whole W2 W0.heap.size 44 zeroT := (Whole.new (w := W0) rfl rfl).drew.below hb2 (by simp)
                have la := lies_of (m := 5) ha rfl
                have HA := Lib.hid ha
                clear ha)
           have HP1 := Lib.hid (And.intro h1 h2)
           have hnB : ¬ w.heap.size = W2.heap.size := by have := h2.row.inside; omega
           clear h1 h2 hb2 k0 k1 k2)
        | (go_at_call 14
           first
             | (refine (HRN.out _ HP1.out.2).mono ?_
                rintro e W3 ⟨rfl, h3, hb3, r0, r1, r2⟩
                have HP2 := Lib.hid (HP1.out.1.quiet hb3)
                first
                  | (have ha := HA.out.below hb3 HA.out.inside
                     have la2 := lies_of (m := 5) ha rfl
                     have HB := Lib.hid ha
                     clear ha la)
                  | (have HB := Lib.hid trivial))
             | (refine (HRN.out _ (HP1.out.2.alloc _)).mono ?_
                rintro e W3 ⟨rfl, h3, hb3, r0, r1, r2⟩
                have HP2 := Lib.hid ((HP1.out.1.quiet ((Below.refl _ _).alloc (Nat.le_refl _) _)).quiet hb3)
                have ha : Whole W3 W2.heap.size 44 zeroT := Whole.below (Whole.new (w := W2) rfl rfl) hb3 (by simp)
                have la2 := lies_of (m := 5) ha rfl
                have HB := Lib.hid ha
                clear ha)
           have hnC : ¬ w.heap.size = W3.heap.size := by have := h3.row.inside; omega
           clear h3 hb3 q0 q1 q2))
    all_goals go_wp2_with fail
    all_goals go_meet
    all_goals
      have z0 := HI0.out.below.size
      have z2 := HP1.out.2.below.size
      have z3 := HP2.out.below.size
      first
        | (have h := hold_store HP2.out HB.out (by omega) (refC nm tm lf 0 (.slice none 0 0)) rfl
           exact ⟨g1, b1, _, rfl, rfl, h.1, h.2, by omega⟩)
        | (have h := hold_store (HP2.out.quiet ((Below.refl _ _).alloc (Nat.le_refl _) (.cells zeroT 44))) (Whole.new rfl rfl) (by omega) (refC nm tm lf 0 (.slice none 0 0)) rfl
           exact ⟨g1, b1, _, rfl, rfl, h.1, h.2, by omega⟩)
  case rest =>
    obtain ⟨g, b, q, rfl, rfl, hh, hq, hwq⟩ := hcut
    have HST := Lib.hid (show OneW w wc g b q nm tm lf (World.heap wc).size 0 [] 0 from ⟨hh, hq, ⟨by have := HNUM.out.2.1; simp; omega, fun t => by have := HNUM.out.1; show ((0 : Nat) : Int) ≤ nm; omega, fun x hx => by cases hx⟩, Nat.le_refl _, ⟨Int.le_refl _, Int.le_refl _⟩, hh.row.inside, hh.tab.lt, hq.inside, hwq, Nat.le_refl _⟩)
    obtain ⟨B, hB⟩ : ∃ B, B = (World.heap wc).size := ⟨_, rfl⟩
    rw [← hB] at HST
    clear hh hq hwq k0 k1 k2 o1 hnA hB
    go_wp2_with fail
    go_loopg [7, 8] 120 (fun gn s7 i wr => ∃ (k : Nat) (ep : Int) (L : List Lse), gn + k = 120 ∧ i = .int .i64 k ∧ s7 = .int .i64 ep ∧ OneW w wr g b q nm tm lf B ep L k)
    case atStart => exact ⟨0, 0, [], rfl, rfl, rfl, HST.out⟩
    case round =>
      obtain ⟨k, ep, L, hgk, rfl, rfl, hpl⟩ := hrel
      have HPL := Lib.hid (And.intro hpl hgk)
      clear hpl
      by_cases hin : k < xs.length ∧ k < 120
      · obtain ⟨hkz, hk120⟩ := hin
        have hi1 : (k : Int) < xs.length := by omega
        have hi2 : (k : Int) < 120 := by omega
        obtain ⟨x, hx⟩ : ∃ x, xs[k]? = some x := ⟨xs[k], List.getElem?_eq_getElem hkz⟩
        have HXX := Lib.hid hx
        obtain ⟨hs1, hs2, Bx, ox, rfl, hBx, hc0⟩ := HX.out k x hx
        have hc : ∀ (j : Nat) (u : Value), (actC x)[j]? = some u → World.cell? wr ⟨Bx, ox + k * 5 + j, none⟩ = some u := fun j u hj => (HPL.out.1.1.below.cell (p := ⟨Bx, ox + k * 5 + j, none⟩) hBx).trans (hc0 j u hj)
        have HS := Lib.hid (And.intro hs1 (And.intro hs2 hBx))
        have e0 : World.cell? wr ⟨Bx, ox + k * 5, none⟩ = some (.int .i64 x.k) := hc 0 _ rfl
        have e1 : World.cell? wr ⟨Bx, ox + k * 5 + 1, none⟩ = some (.string x.t) := hc 1 _ rfl
        have e2 : World.cell? wr ⟨Bx, ox + k * 5 + 2, none⟩ = some (.string x.a) := hc 2 _ rfl
        have e3 : World.cell? wr ⟨Bx, ox + k * 5 + 3, none⟩ = some (.int .i64 x.o) := hc 3 _ rfl
        have e4 : World.cell? wr ⟨Bx, ox + k * 5 + 4, none⟩ = some (.int .i64 x.n) := hc 4 _ rfl
        have HG := Lib.hid hgk
        have HKZ := Lib.hid (And.intro hkz hk120)
        have HKC := Lib.hid (show ∀ W', Kept2 wr W' g b → ∀ o, W'.cell? ⟨Bx, o, none⟩ = wr.cell? ⟨Bx, o, none⟩ from fun W' hk o => kept_cell hk (by have := HS.out.2.2; have := HPL.out.1.1.below.size; omega) (by have := HS.out.2.2; have := HPL.out.1.1.lg; omega) (by have := HS.out.2.2; have := HPL.out.1.1.lb; omega) o)
        clear hx hc hc0 hs1 hs2 hBx hgk hkz hk120
        obtain ⟨kb, hkb⟩ : ∃ kb, kb = (decide (x.k < 1) || decide (5 < x.k)) := ⟨_, rfl⟩
        have HKB := Lib.hid hkb
        clear hkb
        go_upto_region 10 with fail
        go_cut [30, 53] (fun s30 s53 wx => s53 = .bool kb ∧ wr = wx)
        case first =>
          by_cases h1 : x.k < 1
          · obtain rfl : kb = true := by rw [HKB.out]; simp [h1]
            have hd : decide (x.k < 1) = true := by simp [h1]
            go_wp2_with fail
            go_meet
            exact ⟨rfl, rfl⟩
          · have hd : decide (x.k < 1) = false := by simp; omega
            by_cases h2 : 5 < x.k
            · obtain rfl : kb = true := by rw [HKB.out]; simp [h2]
              have hd2 : decide (5 < x.k) = true := by simp [h2]
              go_wp2_with fail
              go_meet
              exact ⟨rfl, rfl⟩
            · obtain rfl : kb = false := by rw [HKB.out]; simp; omega
              have hd2 : decide (5 < x.k) = false := by simp; omega
              go_wp2_with fail
              go_meet
              exact ⟨rfl, rfl⟩
        case rest =>
        obtain ⟨rfl, rfl⟩ := hcut
        go_upto_if 53 with fail
        go_cut [7, 30] (fun s7 s30 wx => ∃ ep2 L2, s7 = .int .i64 ep2 ∧ OneW w wx g b q nm tm lf B ep2 L2 (k + 1))
        case first =>
          as_aux_lemma =>
          cases hkk : kb
          · have hk15 : 1 ≤ x.k ∧ x.k ≤ 5 := by have := HKB.out; rw [hkk] at this; simp at this; omega
            clear hkk
            have HSP := Lib.hid (show Calls Tryd.prog 15 #[.pointer (some ⟨g, 0, none⟩), .agg #[.int .i64 nm, .int .i64 tm, .int .i64 lf, .int .i64 0, .slice none 0 0], .agg #[.int .i64 x.k, .string x.t, .string x.a, .int .i64 x.o, .int .i64 x.n]] wr.drew (StepQ w wr.drew g b nm tm lf (stepM nm tm lf ep L x)) by
              obtain ⟨h1, h2, h3, h4, h5, h6⟩ := HPL.out.1.quiet (below_drawnN (Below.refl _ _) 1)
              have hg := HG.out
              exact step_one E w wr.drew g b nm tm lf ep L B x ⟨HS.out.1, HS.out.2.1⟩ (by omega) (by omega) HE.out ⟨h6.1, h6.2.1, h6.2.2.2.2⟩ h1 hk15)
            have HK15 := Lib.hid hk15
            clear hk15
            go_upto_region 16 with fail
            have c0 : World.cell? wr ⟨q, 0, none⟩ = some (.int .i64 nm) := by rw [HPL.out.1.2.1.at_]; rfl
            have c1 : World.cell? wr ⟨q, 1, none⟩ = some (.int .i64 tm) := by rw [HPL.out.1.2.1.at_]; rfl
            have c2 : World.cell? wr ⟨q, 2, none⟩ = some (.int .i64 lf) := by rw [HPL.out.1.2.1.at_]; rfl
            have c3 : World.cell? wr ⟨q, 3, none⟩ = some (.int .i64 0) := by rw [HPL.out.1.2.1.at_]; rfl
            have c4 : World.cell? wr ⟨q, 4, none⟩ = some (.slice none 0 0) := by rw [HPL.out.1.2.1.at_]; rfl
            go_region_held3 (fun w' => w'.cell? ⟨q, 0, none⟩ = some (.int .i64 nm) ∧ w'.cell? ⟨q, 1, none⟩ = some (.int .i64 tm) ∧ w'.cell? ⟨q, 2, none⟩ = some (.int .i64 lf) ∧ w'.cell? ⟨q, 3, none⟩ = some (.int .i64 0) ∧ w'.cell? ⟨q, 4, none⟩ = some (.slice none 0 0) ∧ w'.cell? ⟨Bx, ox + k * 5, none⟩ = some (.int .i64 x.k) ∧ w'.cell? ⟨Bx, ox + k * 5 + 1, none⟩ = some (.string x.t) ∧ w'.cell? ⟨Bx, ox + k * 5 + 2, none⟩ = some (.string x.a) ∧ w'.cell? ⟨Bx, ox + k * 5 + 3, none⟩ = some (.int .i64 x.o) ∧ w'.cell? ⟨Bx, ox + k * 5 + 4, none⟩ = some (.int .i64 x.n)) (go_keep)
              (first
              | (go_at_call 15; refine HSP.out.mono ?_; rintro en W5 ⟨⟨v', bb, rfl⟩, h5, hk5⟩
                 have HP5 := Lib.hid (show OneW w W5 g b q nm tm lf B (stepM nm tm lf ep L x).2 (stepM nm tm lf ep L x).1 (k + 1) by
                   have hok := stepM_ok nm tm lf ep x HPL.out.1.1.asc HPL.out.1.1.lasts
                   exact HPL.out.1.turned h5 ((Kept2.of_below (below_drawnN (Below.refl wr.heap.size wr) 1) g b).trans hk5) (HPL.out.1.2.2.1.step x HK15.out).1 hok.1 hok.2)
                 have HK5 := Lib.hid (show Kept2 wr W5 g b from (Kept2.of_below (below_drawnN (Below.refl wr.heap.size wr) 1) g b).trans hk5)
                 have HE5 := Lib.hid (show (stepM nm tm lf ep L x).2 = ep from (HPL.out.1.2.2.1.step x HK15.out).2)
                 clear h5 hk5
                 have q0 : World.cell? W5 ⟨q, 0, none⟩ = some (.int .i64 nm) := by rw [HP5.out.2.1.at_]; rfl
                 have q1 : World.cell? W5 ⟨q, 1, none⟩ = some (.int .i64 tm) := by rw [HP5.out.2.1.at_]; rfl
                 have q2 : World.cell? W5 ⟨q, 2, none⟩ = some (.int .i64 lf) := by rw [HP5.out.2.1.at_]; rfl
                 have q3 : World.cell? W5 ⟨q, 3, none⟩ = some (.int .i64 0) := by rw [HP5.out.2.1.at_]; rfl
                 have q4 : World.cell? W5 ⟨q, 4, none⟩ = some (.slice none 0 0) := by rw [HP5.out.2.1.at_]; rfl
                 have p0 : World.cell? W5 ⟨Bx, ox + k * 5, none⟩ = some (.int .i64 x.k) := (HKC.out _ HK5.out _).trans e0
                 have p1 : World.cell? W5 ⟨Bx, ox + k * 5 + 1, none⟩ = some (.string x.t) := (HKC.out _ HK5.out _).trans e1
                 have p2 : World.cell? W5 ⟨Bx, ox + k * 5 + 2, none⟩ = some (.string x.a) := (HKC.out _ HK5.out _).trans e2
                 have p3 : World.cell? W5 ⟨Bx, ox + k * 5 + 3, none⟩ = some (.int .i64 x.o) := (HKC.out _ HK5.out _).trans e3
                 have p4 : World.cell? W5 ⟨Bx, ox + k * 5 + 4, none⟩ = some (.int .i64 x.n) := (HKC.out _ HK5.out _).trans e4
                 clear e0 e1 e2 e3 e4 c0 c1 c2 c3 c4))
            go_wp2_with fail
            go_meet
            exact ⟨ep, _, rfl, by have h := HP5.out; rw [HE5.out] at h; exact h⟩
          · clear hkk
            obtain ⟨rt, hrt⟩ : ∃ rt, rt = takeM nm tm ep L (cutB x.t 70) (cutB x.a 70) x.o x.n := ⟨_, rfl⟩
            have hot := HPL.out.1.2.2.1.take (cutB x.t 70) (cutB x.a 70) x.o x.n
            have htm := takeM_ok nm tm ep (cutB x.t 70) (cutB x.a 70) x.o x.n HPL.out.1.1.asc HPL.out.1.1.lasts
            rw [← hrt] at hot htm
            have HOT := Lib.hid (And.intro hot htm)
            have hz1 : (cutB x.t 70).size ≤ maxLen := Nat.le_trans (cutB_size _ _) (by unfold maxLen; omega)
            have hz2 : (cutB x.a 70).size ≤ maxLen := Nat.le_trans (cutB_size _ _) (by unfold maxLen; omega)
            have HTK := Lib.hid (show ∀ W, OneW w W g b q nm tm lf B ep L k → Calls Tryd.prog 9 #[.pointer (some ⟨g, 0, none⟩), .string (cutB x.t 70), .string (cutB x.a 70), .int .i64 x.o, .int .i64 x.n] W fun e w' =>
                e = .returned (.tuple #[.agg #[.string rt.x.t, .string rt.x.a, .int .i64 rt.x.o, .int .i64 rt.x.e, .int .i64 rt.x.l], .int .i64 rt.was, errV E rt.code]) ∧ OneW w w' g b q nm tm lf B rt.ep rt.L (k + 1) ∧ Kept2 W w' g b from fun W hW => by
              have hg := HG.out
              refine (h_take W hW.1 E HE.out (by have := hW.2.2.2.2.1; omega) (by have := hW.2.2.2.1; omega) (cutB x.t 70) (cutB x.a 70) x.o x.n hz1 hz2).mono ?_
              rw [← hrt]
              rintro e w' ⟨rfl, h1, h2⟩
              exact ⟨rfl, hW.turned h1 h2 hot.1 htm.2.2.1 htm.2.2.2, h2⟩)
            have HQ := Lib.hid (And.intro (cut_calls x.t HS.out.1 70 (by decide)) (cut_calls x.a HS.out.2.1 70 (by decide)))
            have o1 := rowOf_L rt.x
            unfold lseV at o1
            have hnP : ¬ Bx = wr.heap.size := by have := HS.out.2.2; have := HPL.out.1.1.below.size; omega
            clear hrt hot htm hz1 hz2
            go_upto_region 11 with fail
            go_cut [7, 9, 11, 30] (fun s7 s9 s11 s30 wx => ∃ p, s7 = .int .i64 ep ∧ s9 = .pointer (some ⟨p, 0, none⟩) ∧ s11 = errV E rt.code ∧ Whole wx p 29 (lseC rt.x).toArray ∧ OneW w wx g b q nm tm lf B rt.ep rt.L (k + 1))
            case first =>
              go_region_held3 (fun w' => w'.cell? ⟨Bx, ox + k * 5 + 1, none⟩ = some (.string x.t) ∧ w'.cell? ⟨Bx, ox + k * 5 + 2, none⟩ = some (.string x.a) ∧ w'.cell? ⟨Bx, ox + k * 5 + 3, none⟩ = some (.int .i64 x.o) ∧ w'.cell? ⟨Bx, ox + k * 5 + 4, none⟩ = some (.int .i64 x.n)) (first | (simp only [cell_set_ne hnQ]; go_keep) | (simp only [cell_set_ne hnP]; go_keep) | go_keep)
                (first
                | (go_at_call_of 20 (Value.string x.t); refine (HQ.out.1 _).mono ?_; rintro en wq ⟨rfl, rfl⟩)
                | (go_at_call_of 20 (Value.string x.a); refine (HQ.out.2 _).mono ?_; rintro en wq ⟨rfl, rfl⟩)
                | (go_at_call 9
                   first
                     | (refine (HTK.out _ (HPL.out.1.quiet (below_drawnN (Below.refl _ _) 1))).mono ?_
                        rintro en W5 ⟨rfl, h5, hk5⟩
                        have HK5 := Lib.hid (show Kept2 wr W5 g b from (Kept2.of_below (below_drawnN (Below.refl wr.heap.size wr) 1) g b).trans hk5)
                        have HA := Lib.hid trivial)
                     | (refine (HTK.out _ (HPL.out.1.quiet (below_drawnN ((Below.refl _ _).alloc (Nat.le_refl _) _) 1))).mono ?_
                        rintro en W5 ⟨rfl, h5, hk5⟩
                        have HK5 := Lib.hid (show Kept2 wr W5 g b from (Kept2.of_below (below_drawnN ((Below.refl wr.heap.size wr).alloc (Nat.le_refl _) (.cells zeroL 29)) 1) g b).trans hk5)
                        have ha : Whole W5 wr.heap.size 29 zeroL := kept_two (Whole.new (w := wr) rfl rfl).drew hk5 (by have := HPL.out.1.1.row.inside; omega) (by have := HPL.out.1.1.tab.lt; omega)
                        have la := lies_of (m := 5) ha rfl
                        have HA := Lib.hid ha
                        clear ha)
                   have HP5 := Lib.hid h5
                   have hnQ : ¬ Bx = W5.heap.size := by have := HS.out.2.2; have := HP5.out.1.below.size; omega
                   have p1 : World.cell? W5 ⟨Bx, ox + k * 5 + 1, none⟩ = some (.string x.t) := (HKC.out _ HK5.out _).trans e1
                   have p2 : World.cell? W5 ⟨Bx, ox + k * 5 + 2, none⟩ = some (.string x.a) := (HKC.out _ HK5.out _).trans e2
                   have p3 : World.cell? W5 ⟨Bx, ox + k * 5 + 3, none⟩ = some (.int .i64 x.o) := (HKC.out _ HK5.out _).trans e3
                   have p4 : World.cell? W5 ⟨Bx, ox + k * 5 + 4, none⟩ = some (.int .i64 x.n) := (HKC.out _ HK5.out _).trans e4
                   clear e0 e1 e2 e3 e4 h5 hk5))
              all_goals go_wp2_with fail
              all_goals go_meet
              all_goals
                have z5 := HK5.out.size
                have zb := HPL.out.1.2.2.2.2.2.2.2.2.2
                first
                  | (refine ⟨_, rfl, rfl, rfl, fill_row HA.out (new := (lseC rt.x).toArray) rfl, HP5.out.far (only_set _ _ 0 _) (by omega)⟩)
                  | (refine ⟨_, rfl, rfl, rfl, fill_row (Whole.new (cs := zeroL) rfl rfl) (new := (lseC rt.x).toArray) rfl, (HP5.out.quiet ((Below.refl _ _).alloc (Nat.le_refl _) (.cells zeroL 29))).far (only_set _ _ 0 _) (by omega)⟩)
            case rest =>
            obtain ⟨p, rfl, rfl, rfl, hwp, hpt⟩ := hcut
            have HPT := Lib.hid hpt
            have c3 : World.cell? wc ⟨p, 3, none⟩ = some (.int .i64 rt.x.e) := by rw [hwp.at_]; rfl
            have he1 : 0 ≤ ep := HPL.out.1.2.2.2.2.1.1
            have he2 : ep ≤ 1000000 := by have := HPL.out.1.2.2.2.2.1.2; have := HKZ.out.2; omega
            clear hwp hpt e0 e1 e2 e3 e4 o1 hnP
            rcases HOT.out.1.2 with ⟨hc1, hc2, hc3⟩ | ⟨hc1, hc2⟩
            · have HC := Lib.hid (And.intro hc2 hc3)
              rw [hc1, show errV E (0 : Nat) = .nilIface from rfl]
              rw [hc2] at c3
              clear hc1 hc2 hc3
              go_wp2_with fail
              go_meet
              exact ⟨rt.ep, rt.L, by rw [HC.out.2], HPT.out⟩
            · have HC := Lib.hid hc2
              rw [show errV E rt.code = errI (E (rt.code - 1)) from if_neg hc1]
              unfold errI
              clear hc1 hc2
              go_wp2_with fail
              go_meet
              exact ⟨rt.ep, rt.L, by rw [HC.out], HPT.out⟩
        case rest =>
        obtain ⟨ep2, L2, rfl, hpf⟩ := hcut
        have HPF := Lib.hid hpf
        have HL2 := Lib.hid (show L2.length ≤ 100000 by have := hpf.2.2.2.1; have := HKZ.out.2; omega)
        clear hpf
        go_wp2_with fail
        refine (h_all wc HPF.out.1 HL2.out).mono ?_
        rintro en W6 ⟨v6, rfl, hl6, h6, hb6⟩
        obtain ⟨A6, c6, rfl⟩ := hl6.lens
        have HP6 := Lib.hid (HPF.out.quiet hb6)
        have HL6 := Lib.hid hl6
        have c1 : W6.cell? ⟨q, 1, none⟩ = some (.int .i64 tm) := by rw [HP6.out.2.1.at_]; rfl
        have hdl : decide (tm < (L2.length : Int)) = false := by have := HP6.out.2.2.1.len; simp; omega
        have hml : (L2.length : Int) ≤ 100000 := by have := HL2.out; omega
        clear hl6 h6 hb6
        go_wp2_with fail
        clear c1 hdl
        go_loopg [111] L2.length (fun gq i wr => ∃ j : Nat, gq + j = L2.length ∧ i = .int .i64 j ∧ Below W6.heap.size W6 wr)
        case atStart => exact ⟨0, rfl, rfl, Below.refl _ _⟩
        case round =>
          obtain ⟨j, hgj, rfl, hbj⟩ := hrel
          have HBJ := Lib.hid (And.intro hbj hgj)
          clear hbj
          by_cases hjl : j < L2.length
          · obtain ⟨y, hy⟩ : ∃ y, L2[j]? = some y := ⟨L2[j], List.getElem?_eq_getElem hjl⟩
            obtain ⟨gv, cap2, hv, _, _, hcell⟩ := (HL6.out.rest HBJ.out.1).at_ hy
            injection hv with hv1 hv2 hv3
            subst hv1; subst hv3
            have f0 : wr.cell? ⟨gv, j * 5, none⟩ = some (.string y.t) := (hcell 0 _ rfl).1
            have f1 : wr.cell? ⟨gv, j * 5 + 1, none⟩ = some (.string y.a) := (hcell 1 _ rfl).1
            have f2 : wr.cell? ⟨gv, j * 5 + 2, none⟩ = some (.int .i64 y.o) := (hcell 2 _ rfl).1
            have f3 : wr.cell? ⟨gv, j * 5 + 3, none⟩ = some (.int .i64 y.e) := (hcell 3 _ rfl).1
            have f4 : wr.cell? ⟨gv, j * 5 + 4, none⟩ = some (.int .i64 y.l) := (hcell 4 _ rfl).1
            have HY := Lib.hid hy
            have hqj : (j : Int) < L2.length := by omega
            clear hcell hv2 hgj hy
            go_upto_region 23 with fail
            obtain ⟨P14, hP14⟩ : ∃ P14, P14 = wr.heap.size := ⟨_, rfl⟩
            rw [← hP14]
            have HP14 := Lib.hid hP14
            refine name_wp (fun W => Below W6.heap.size W6 W ∧ Whole W P14 29 (lseC y).toArray) ⟨HBJ.out.1.alloc HBJ.out.1.size _, Whole.new hP14.symm rfl⟩ ?_
            intro W8 hF8
            have HF8 := Lib.hid hF8
            have k0 : W8.cell? ⟨P14, 0, none⟩ = some (.string y.t) := by rw [hF8.2.at_]; rfl
            have k1 : W8.cell? ⟨P14, 1, none⟩ = some (.string y.a) := by rw [hF8.2.at_]; rfl
            clear hF8 hP14 f0 f1 f2 f3 f4
            go_wp2_with fail
            have hym : y ∈ L2 := List.mem_of_getElem? HY.out
            have hsz := (HP6.out.quiet HF8.out.1).1.tab.sz y hym
            have hfi := h_find W8 (HP6.out.quiet HF8.out.1).1 E HE.out y.t y.a hsz.1 hsz.2
            have hlk := lookL_mem HP6.out.1.asc hym
            rw [show foundX L2 y.t y.a = y by unfold foundX; rw [hlk]; rfl, show foundE (E 7) L2 y.t y.a = .nilIface by unfold foundE; rw [hlk]; rfl] at hfi
            have HYM := Lib.hid hym
            refine hfi.mono ?_
            clear hfi hlk hsz hym k0 k1
            rintro en W9 ⟨rfl, _, hb9⟩
            have HF9 := Lib.hid (show Below W6.heap.size W6 W9 ∧ Whole W9 P14 29 (lseC y).toArray from ⟨HF8.out.1.trans (hb9.mono HF8.out.1.size), HF8.out.2.below hb9 HF8.out.2.inside⟩)
            clear hb9
            unfold lseV
            go_upto_region 24 with fail
            refine name_wp (fun W => Below W6.heap.size W6 W ∧ Whole W P14 29 (lseC y).toArray ∧ Whole W W9.heap.size 29 (lseC y).toArray) ⟨HF9.out.1.alloc HF9.out.1.size _, HF9.out.2.alloc _, Whole.new rfl rfl⟩ ?_
            intro W10 hF10
            have HF10 := Lib.hid hF10
            clear hF10
            have g0 : World.cell? W10 ⟨P14, 0, none⟩ = some (.string y.t) := by rw [HF10.out.2.1.at_]; rfl
            have g1 : World.cell? W10 ⟨P14, 1, none⟩ = some (.string y.a) := by rw [HF10.out.2.1.at_]; rfl
            have g2 : World.cell? W10 ⟨P14, 2, none⟩ = some (.int .i64 y.o) := by rw [HF10.out.2.1.at_]; rfl
            have g3 : World.cell? W10 ⟨P14, 3, none⟩ = some (.int .i64 y.e) := by rw [HF10.out.2.1.at_]; rfl
            have g4 : World.cell? W10 ⟨P14, 4, none⟩ = some (.int .i64 y.l) := by rw [HF10.out.2.1.at_]; rfl
            have f0 : World.cell? W10 ⟨W9.heap.size, 0, none⟩ = some (.string y.t) := by rw [HF10.out.2.2.at_]; rfl
            have f1 : World.cell? W10 ⟨W9.heap.size, 1, none⟩ = some (.string y.a) := by rw [HF10.out.2.2.at_]; rfl
            have f2 : World.cell? W10 ⟨W9.heap.size, 2, none⟩ = some (.int .i64 y.o) := by rw [HF10.out.2.2.at_]; rfl
            have f3 : World.cell? W10 ⟨W9.heap.size, 3, none⟩ = some (.int .i64 y.e) := by rw [HF10.out.2.2.at_]; rfl
            have f4 : World.cell? W10 ⟨W9.heap.size, 4, none⟩ = some (.int .i64 y.l) := by rw [HF10.out.2.2.at_]; rfl
            have q0 : World.cell? W10 ⟨q, 0, none⟩ = some (.int .i64 nm) := by rw [(HP6.out.quiet HF10.out.1).2.1.at_]; rfl
            have hq := neq_lease20 y y
            rw [eqL_self] at hq
            have hgd := guard_lease
            simp only [lseC] at hq
            have hde : decide (ep2 < y.e) = false := by have := HP6.out.2.2.1.eps y HYM.out; simp; omega
            have hdc : decide (nm < (cntL L2 y.t : Int)) = false := by have := HP6.out.2.2.1.cnt y.t; simp; omega
            have HCN := Lib.hid (h_count W10.drew (HP6.out.quiet (below_drawnN HF10.out.1 1)).1 HL2.out y.t)
            go_cut [111, 146] (fun s111 s146 wx => s111 = .int .i64 (j : Int) ∧ s146 = .bool false ∧ Below W6.heap.size W6 wx ∧ Whole wx P14 29 (lseC y).toArray)
            case first =>
              as_aux_lemma =>
              go_region_held3 (fun w' => w'.cell? ⟨P14, 0, none⟩ = some (.string y.t) ∧ w'.cell? ⟨P14, 1, none⟩ = some (.string y.a) ∧ w'.cell? ⟨P14, 2, none⟩ = some (.int .i64 y.o) ∧ w'.cell? ⟨P14, 3, none⟩ = some (.int .i64 y.e) ∧ w'.cell? ⟨P14, 4, none⟩ = some (.int .i64 y.l) ∧ w'.cell? ⟨W9.heap.size, 0, none⟩ = some (.string y.t) ∧ w'.cell? ⟨W9.heap.size, 1, none⟩ = some (.string y.a) ∧ w'.cell? ⟨W9.heap.size, 2, none⟩ = some (.int .i64 y.o) ∧ w'.cell? ⟨W9.heap.size, 3, none⟩ = some (.int .i64 y.e) ∧ w'.cell? ⟨W9.heap.size, 4, none⟩ = some (.int .i64 y.l) ∧ w'.cell? ⟨q, 0, none⟩ = some (.int .i64 nm)) (go_keep)
                (first
                | (go_at_call 18; refine HCN.out.mono ?_; rintro en W11 ⟨rfl, _, hb11⟩
                   have HF11 := Lib.hid (show Below W6.heap.size W6 W11 ∧ Whole W11 P14 29 (lseC y).toArray ∧ Whole W11 W9.heap.size 29 (lseC y).toArray from ⟨(below_drawnN HF10.out.1 1).trans (hb11.mono HF10.out.1.size), HF10.out.2.1.drew.below hb11 HF10.out.2.1.inside, HF10.out.2.2.drew.below hb11 HF10.out.2.2.inside⟩)
                   clear hb11
                   have r0 : World.cell? W11 ⟨P14, 0, none⟩ = some (.string y.t) := by rw [HF11.out.2.1.at_]; rfl
                   have r1 : World.cell? W11 ⟨P14, 1, none⟩ = some (.string y.a) := by rw [HF11.out.2.1.at_]; rfl
                   have r2 : World.cell? W11 ⟨P14, 2, none⟩ = some (.int .i64 y.o) := by rw [HF11.out.2.1.at_]; rfl
                   have r3 : World.cell? W11 ⟨P14, 3, none⟩ = some (.int .i64 y.e) := by rw [HF11.out.2.1.at_]; rfl
                   have r4 : World.cell? W11 ⟨P14, 4, none⟩ = some (.int .i64 y.l) := by rw [HF11.out.2.1.at_]; rfl
                   have s0 : World.cell? W11 ⟨W9.heap.size, 0, none⟩ = some (.string y.t) := by rw [HF11.out.2.2.at_]; rfl
                   have s1 : World.cell? W11 ⟨W9.heap.size, 1, none⟩ = some (.string y.a) := by rw [HF11.out.2.2.at_]; rfl
                   have s2 : World.cell? W11 ⟨W9.heap.size, 2, none⟩ = some (.int .i64 y.o) := by rw [HF11.out.2.2.at_]; rfl
                   have s3 : World.cell? W11 ⟨W9.heap.size, 3, none⟩ = some (.int .i64 y.e) := by rw [HF11.out.2.2.at_]; rfl
                   have s4 : World.cell? W11 ⟨W9.heap.size, 4, none⟩ = some (.int .i64 y.l) := by rw [HF11.out.2.2.at_]; rfl
                   have t0 : World.cell? W11 ⟨q, 0, none⟩ = some (.int .i64 nm) := by rw [(HP6.out.quiet HF11.out.1).2.1.at_]; rfl
                   clear g0 g1 g2 g3 g4 f0 f1 f2 f3 f4 q0))
              go_wp2_with fail
              go_meet
              exact ⟨rfl, rfl, HF11.out.1, HF11.out.2.1⟩
            case rest =>
            obtain ⟨rfl, rfl, hb12, hw12⟩ := hcut
            have HF12 := Lib.hid (And.intro hb12 hw12)
            clear hb12 hw12 g0 g1 g2 g3 g4 f0 f1 f2 f3 f4 q0 hq hgd hde hdc
            have d0 : World.cell? wc ⟨P14, 0, none⟩ = some (.string y.t) := by rw [HF12.out.2.at_]; rfl
            have d1 : World.cell? wc ⟨P14, 1, none⟩ = some (.string y.a) := by rw [HF12.out.2.at_]; rfl
            go_upto_region 26 with fail
            go_cut [13, 111, 181] (fun s13 s111 s181 wx => s111 = .int .i64 (j : Int) ∧ s181 = .bool false ∧ Below W6.heap.size W6 wx)
            case first =>
              as_aux_lemma =>
              obtain ⟨jj, hjj⟩ : ∃ jj : Int, jj = (j : Int) := ⟨_, rfl⟩
              rw [← hjj]
              have HJJ := Lib.hid hjj
              clear hjj
              rcases j with _ | i
              · have hz1 : decide ((0 : Int) < jj) = false := by have := HJJ.out; simp; omega
                go_quiet (fail)
                go_wp2_with fail
                go_meet
                exact ⟨by rw [HJJ.out], rfl, below_drawnN HF12.out.1 _⟩
              · obtain ⟨z, hz⟩ : ∃ z, L2[i]? = some z := ⟨L2[i], List.getElem?_eq_getElem _⟩
                obtain ⟨gv2, cap3, hv2, _, _, hcell2⟩ := (HL6.out.rest HF12.out.1).at_ hz
                cases hv2
                have p0 : World.cell? wc ⟨gv, i * 5, none⟩ = some (.string z.t) := (hcell2 0 _ rfl).1
                have p1 : World.cell? wc ⟨gv, i * 5 + 1, none⟩ = some (.string z.a) := (hcell2 1 _ rfl).1
                have hlt : ltL z y = true := by
                  have hp := List.pairwise_iff_getElem.1 HP6.out.1.asc i (i + 1) (by omega) hjl (by omega)
                  rw [← (List.getElem?_eq_some_iff.1 hz).2, ← (List.getElem?_eq_some_iff.1 HY.out).2]
                  exact hp
                have HAF := Lib.hid (asc_facts hlt)
                have hi0 : (0 : Int) ≤ (i : Int) := by omega
                have hib : (i : Int) < L2.length := by omega
                have hg0 : decide ((0 : Int) < jj) = true := by have := HJJ.out; simp; omega
                have hw1 : IntKind.i64.wrap (jj - 1) = (i : Int) := by rw [show jj - 1 = (i : Int) by have := HJJ.out; omega]; exact IntWalk.i64_in _ (by omega)
                have hw2 : IntKind.i64.wrap (i : Int) = (i : Int) := IntWalk.i64_in _ (by omega)
                have hw3 : jj - 1 = (i : Int) := by have := HJJ.out; omega
                clear hcell2 hz hlt
                have haf := HAF.out
                rcases haf with ⟨hb1, ⟨hb2, hb3⟩ | ⟨hb2, hb3⟩⟩
                · go_quiet (fail)
                  go_wp2_with fail
                  go_meet
                  exact ⟨by rw [HJJ.out], rfl, below_drawnN HF12.out.1 _⟩
                · go_quiet (fail)
                  go_wp2_with fail
                  go_meet
                  exact ⟨by rw [HJJ.out], rfl, below_drawnN HF12.out.1 _⟩
            case rest =>
            obtain ⟨rfl, rfl, hb13⟩ := hcut
            have HF13 := Lib.hid hb13
            clear hb13 d0 d1
            go_wp2_with fail
            go_roundg (L2.length - (j + 1))
            case measure => have := HBJ.out.2; omega
            case rel => exact ⟨j + 1, by have := HBJ.out.2; omega, by go_num, HF13.out⟩
          · have hjj : j = L2.length := by omega
            subst hjj
            go_wp2_with fail
            go_roundg (120 - (k + 1))
            case measure => have := HG.out; omega
            case rel => exact ⟨k + 1, ep2, L2, by have := HG.out; omega, by go_num, rfl, HP6.out.quiet HBJ.out.1⟩
      · have HIN := Lib.hid hin
        by_cases hi1 : (k : Int) < xs.length
        · have hi2 : ¬ (k : Int) < 120 := by have := HIN.out; omega
          have hi3 : decide ((k : Int) < 120) = false := by simp; omega
          go_wp2_with fail
          go_ret
          exact ⟨rfl, HPL.out.1.1.below⟩
        · have hi3 : decide ((k : Int) < xs.length) = false := by simp; omega
          go_wp2_with fail
          go_ret
          exact ⟨rfl, HPL.out.1.1.below⟩
end Go.Proofs.YtlkgdnmfgcmldaaDoor
