/- The reference's table: Take. -/
import Derived.Test.YtlkgdnmfgcmldaaDoorLea30
import Derived.Test.YtlkgdnmfgcmldaaDoorRowK
import Derived.Deep.RegionHeld3
import Derived.Deep.RegionWith
import Derived.Deep.DeepCutAuto
import Derived.Deep.QuietTactic
import Derived.BigQuiet
import Derived.BigRegion
namespace Go.Proofs.YtlkgdnmfgcmldaaDoor
open Go.RowKit Go.Spk
set_option linter.unusedVariables false
attribute [local go_sem ↓] Go.wp_at_zero Go.wp_at_succ wp_ldT wp_ldR wp_ldL wp_stT wp_stR
attribute [local go_sem] Lies.drew_is rowAt_drew Lies.set Lies.set_drew rowAt_set rowBlk_is
theorem pos_cases (L : List Lse) (t a : ByteArray) : (∃ (k : Nat) (x : Lse), L[k]? = some x ∧ lookL L t a = some x ∧ posL L t a = (k : Int)) ∨ (lookL L t a = none ∧ posL L t a = -1) := by
  cases h : L.findIdx? (fun y => !notN t a y) with
  | some k =>
    rw [List.findIdx?_eq_some_iff_getElem] at h
    obtain ⟨hk, h1, h2⟩ := h
    have hp := posL_yes (t := t) (a := a) (List.getElem?_eq_getElem hk) (by simpa using h1) (fun j z hj hz => by
      have hjl : j < L.length := (List.getElem?_eq_some_iff.1 hz).1
      have := h2 j hj
      rw [← (List.getElem?_eq_some_iff.1 hz).2]
      simpa using this)
    exact .inl ⟨k, _, List.getElem?_eq_getElem hk, hp.2, hp.1⟩
  | none =>
    rw [List.findIdx?_eq_none_iff] at h
    have hp := posL_no (L := L) (t := t) (a := a) (fun j z hz => by simpa using h z (List.mem_of_getElem? hz))
    exact .inr ⟨hp.2, hp.1⟩
/-- Four results, the first two of them rows laid in memory. -/
theorem results_row2_tmp2 {P : Program} {fn : Func} {p p2 u v : Tmp} {ty ty2 : TypeId} (h : fn.results = #[.cell p ty, .cell p2 ty2, .tmp u, .tmp v]) (tmps : Array Value) (w : World) (g g2 : Nat) (t t2 : TypeId) (cs cs2 : Array Value) (d d2 : TypeDesc)
    (hp : tmps.getD p undef = .pointer (some ⟨g, 0, none⟩)) (hg : w.heap[g]? = some (.cells cs t (0, 0)))
    (hu : P.underlying ty = some d) (hd : (match d with | .struct _ | .array _ _ => true | _ => false) = true) (hi : (P.info? ty).map (·.size) = some cs.size)
    (hp2 : tmps.getD p2 undef = .pointer (some ⟨g2, 0, none⟩)) (hg2 : w.heap[g2]? = some (.cells cs2 t2 (0, 0)))
    (hu2 : P.underlying ty2 = some d2) (hd2 : (match d2 with | .struct _ | .array _ _ => true | _ => false) = true) (hi2 : (P.info? ty2).map (·.size) = some cs2.size) :
    (results fn tmps).run P w = .ok (.tuple #[.agg cs, .agg cs2, tmps.getD u undef, tmps.getD v undef]) w := by
  have hp' : tmps[p]?.getD undef = .pointer (some ⟨g, 0, none⟩) := by simpa using hp
  have hp2' : tmps[p2]?.getD undef = .pointer (some ⟨g2, 0, none⟩) := by simpa using hp2
  simp [results, h, hp', hp2', asAddr, run_loadVar_row w g t ty cs (0, 0) d hg hu hd hi, run_loadVar_row w g2 t2 ty2 cs2 (0, 0) d2 hg2 hu2 hd2 hi2, Result.andThen]
/-- What Take holds of its own blocks. -/
def Taking (w W : World) (n tt l e : Int) (v : Value) : Prop :=
  Below w.heap.size w W ∧ Whole W w.heap.size 44 (refC n tt l e v) ∧ Whole W (w.heap.size + 1) 44 (refC 0 0 0 0 (.slice none 0 0)) ∧ Whole W (w.heap.size + 2) 71 (lseC lse0).toArray
theorem Taking.quiet {w W W' : World} {n tt l e : Int} {v : Value} (h : Taking w W n tt l e v) (hb : Below W.heap.size W W') : Taking w W' n tt l e v :=
  ⟨h.1.trans (hb.mono h.1.size), h.2.1.below hb h.2.1.inside, h.2.2.1.below hb h.2.2.1.inside, h.2.2.2.below hb h.2.2.2.inside⟩
/-- What the loop holds of the new list. -/
def Placing (w W : World) (n tt l e : Int) (v : Value) (n5 : Nat) (z : Lse) (s : Value) (M : List Lse) : Prop :=
  Lows W (n5 + 1) 71 s M ∧ Taking w W n tt l e v ∧ Whole W n5 71 (lseC z).toArray ∧ n5 + 1 ≤ W.heap.size ∧ w.heap.size + 2 < n5
theorem Placing.quiet {w W W' : World} {n tt l e : Int} {v : Value} {n5 : Nat} {z : Lse} {s : Value} {M : List Lse} (h : Placing w W n tt l e v n5 z s M) (hb : Below W.heap.size W W') : Placing w W' n tt l e v n5 z s M :=
  ⟨h.1.rest hb, h.2.1.quiet hb, h.2.2.1.below hb h.2.2.1.inside, Nat.le_trans h.2.2.2.1 hb.size, h.2.2.2.2⟩
theorem Placing.push {w W W' : World} {n tt l e : Int} {v : Value} {n5 : Nat} {z : Lse} {s s' : Value} {M M' : List Lse} (h : Placing w W n tt l e v n5 z s M) (h7 : Lows W' (n5 + 1) 71 s' M') (hg : W.grownBy W' s.ownBlock) : Placing w W' n tt l e v n5 z s' M' := by
  obtain ⟨q1, ⟨r1, r2, r3, r4⟩, q3, q4, q5⟩ := h
  have hlt := fun g hg => (q1.lt g hg).1
  exact ⟨h7, ⟨r1.grown hg r1.size (fun k hk => by have := hlt k hk; omega), r2.only hg (fun e => by have := hlt _ e.symm; omega), r3.only hg (fun e => by have := hlt _ e.symm; omega), r4.only hg (fun e => by have := hlt _ e.symm; omega)⟩, q3.only hg (fun e => by have := hlt _ e.symm; omega), Nat.le_trans q4 hg.size, q5⟩
theorem step_no {L : List Lse} (hA : Asc L) {z y : Lse} {q : Nat} {an : Bool} (hy : L[q]? = some y) (han : an = ((L.take q).any fun y => ltL z y)) (ht : (!an && ltL z y) = false) (ho : ltL z y = true ∨ ltL y z = true) :
    an = ((L.take (q + 1)).any fun y => ltL z y) ∧ accI z (L.take (q + 1)) = accI z (L.take q) ++ [y] := by
  cases an with
  | true =>
    obtain ⟨_, h2, h3⟩ := accI_behind hA hy han.symm
    exact ⟨h3.symm, h2⟩
  | false =>
    have hn : ltL z y = false := by simpa using ht
    rcases ho with h | h
    · rw [hn] at h; cases h
    · obtain ⟨h2, h3⟩ := accI_before hy han.symm h
      exact ⟨h3.symm, h2⟩
theorem step_yes {L : List Lse} {z y : Lse} {q : Nat} {an : Bool} (hy : L[q]? = some y) (han : an = ((L.take q).any fun y => ltL z y)) (ht : (!an && ltL z y) = true) :
    ((L.take (q + 1)).any fun y => ltL z y) = true ∧ accI z (L.take (q + 1)) = (accI z (L.take q) ++ [z]) ++ [y] := by
  cases an with
  | true => simp at ht
  | false =>
    obtain ⟨h2, h3⟩ := accI_first hy han.symm (by simpa using ht)
    exact ⟨h3, by rw [h2]; simp⟩
theorem two_rows {W : World} {p q : Nat} (hne : p ≠ q) {T U : TypeId} {c0 d0 : Array Value} (h1 : Whole W p T c0) (h2 : Whole W q U d0) (c d : Array Value) (hc : c.size = c0.size) (hd : d.size = d0.size) :
    Whole ((W.setCells p 0 c.toList).setCells q 0 d.toList) p T c ∧ Whole ((W.setCells p 0 c.toList).setCells q 0 d.toList) q U d ∧ ∃ W', W.grownBy W' (some p) ∧ W'.grownBy ((W.setCells p 0 c.toList).setCells q 0 d.toList) (some q) :=
  ⟨(fill_row h1 hc).only (only_set q _ 0 _) (ne_some hne), fill_row (h2.only (only_set p _ 0 _) (ne_some (Ne.symm hne))) hd, _, only_set p _ 0 _, only_set q _ 0 _⟩
theorem Taking.ended {w W W' F : World} {n tt l e : Int} {v : Value} {C : Nat} {v' : Value} {M : List Lse} {p q : Nat} (h : Taking w W n tt l e v) (hl : Lows W C 71 v' M) (hC : w.heap.size + 3 ≤ C) (hp : w.heap.size + 1 ≤ p ∧ p ≤ w.heap.size + 2) (hq : w.heap.size + 1 ≤ q ∧ q ≤ w.heap.size + 2) (h1 : W.drew.grownBy W' (some p)) (h2 : W'.grownBy F (some q)) (hi : W.heap.size ≤ W'.heap.size) :
    Below w.heap.size w F ∧ Lows F w.heap.size 71 v' M := by
  have hb := below_drawnN h.1 1
  refine ⟨(hb.grown h1 hb.size (fun k hk => by injection hk with hk; omega)).grown h2 (Nat.le_trans h.1.size hi) (fun k hk => by injection hk with hk; omega), ?_⟩
  have hd : Lows W.drew C 71 v' M := hl.kept (only_drawn (World.grownBy.refl W none)) (own_or v')
  have hk := hd.kept h1 (.inr (fun e => by have := (hd.lt _ e).1; omega))
  exact (hk.kept h2 (.inr (fun e => by have := (hk.lt _ e).1; omega))).less (by omega)
structure RTakeP (B : Nat) (n tt l : Int) (w : World) (r : TakeR) (en : Ending) (w' : World) : Prop where
  ret : ∃ v', en = .returned (.tuple #[refV n tt l r.ep v', lseV r.x, .int .i64 r.was, .int .i64 r.code]) ∧ Lows w' B 71 v' r.L
  below : Below w.heap.size w w'
set_option maxRecDepth 100000 in
set_option maxHeartbeats 8000000 in
theorem rtake_calls (n tt l e : Int) (he : 0 ≤ e ∧ e ≤ 1000000) (B : Nat) (v : Value) (L : List Lse) (hA : Asc L) (hL : L.length ≤ 100000) (t a : ByteArray) (o now : Int) (ht : t.size ≤ maxLen) (ha : a.size ≤ maxLen) (w : World) (hB : B ≤ w.heap.size) (h : Lows w B 71 v L) :
    Calls Tryd.prog 31 #[refV n tt l e v, .string t, .string a, .int .i64 o, .int .i64 now] w (RTakeP B n tt l w (takeM n tt e L t a o now)) := by
  obtain ⟨A, c, rfl⟩ := h.lens
  have hm : (L.length : Int) ≤ 100000 := by omega
  have H := Lib.hid h
  have HB := Lib.hid (show (0 ≤ e ∧ e ≤ 1000000) ∧ Asc L ∧ L.length ≤ 100000 ∧ B ≤ w.heap.size from ⟨he, hA, hL, hB⟩)
  have HS := Lib.hid (And.intro ht ha)
  obtain ⟨r, hr⟩ : ∃ r, r = takeM n tt e L t a o now := ⟨_, rfl⟩
  have HR := Lib.hid hr
  rw [← hr]
  clear h he hA hL hB ht ha hr
  unfold refV
  go_enter Tryd.func31, Tryd.ntmps31
  go_wp2_with fail
  generalize hW : World.alloc _ _ = W0
  have H0 := Lib.hid (show Taking w W0 n tt l e (.slice A L.length c) by
    subst hW
    have a1 : Whole (w.alloc (.cells (refC n tt l e (.slice A L.length c)) 44)) w.heap.size 44 (refC n tt l e (.slice A L.length c)) := Whole.new rfl rfl
    have a2 : Whole ((w.alloc (.cells (refC n tt l e (.slice A L.length c)) 44)).alloc (.cells (refC 0 0 0 0 (.slice none 0 0)) 44)) (w.heap.size + 1) 44 (refC 0 0 0 0 (.slice none 0 0)) := Whole.new (by simp) rfl
    exact ⟨by go_grown, (a1.alloc _).alloc _, a2.alloc _, Whole.new (by simp) rfl⟩)
  clear hW
  cases hv1 : validB t
  · have HRES := Lib.hid (show r = ⟨L, e, lse0, -1, 17⟩ by rw [HR.out]; unfold takeM; rw [hv1]; rfl)
    have hc := fun W => rvalid_calls t HS.out.1 W
    rw [hv1] at hc
    have HC := Lib.hid hc
    clear hc
    refine (HC.out _).mono ?_
    rintro e w' ⟨rfl, rfl⟩
    clear HC
    clear hv1
    have c0 : World.cell? w' ⟨w.heap.size, 0, none⟩ = some (.int .i64 n) := by rw [H0.out.2.1.at_]; rfl
    have c1 : World.cell? w' ⟨w.heap.size, 1, none⟩ = some (.int .i64 tt) := by rw [H0.out.2.1.at_]; rfl
    have c2 : World.cell? w' ⟨w.heap.size, 2, none⟩ = some (.int .i64 l) := by rw [H0.out.2.1.at_]; rfl
    have c3 : World.cell? w' ⟨w.heap.size, 3, none⟩ = some (.int .i64 e) := by rw [H0.out.2.1.at_]; rfl
    have c4 : World.cell? w' ⟨w.heap.size, 4, none⟩ = some (.slice A L.length c) := by rw [H0.out.2.1.at_]; rfl
    have k1 := H0.out.2.2.1
    have b0 := k1.at_ 0; have b1 := k1.at_ 1; have b2 := k1.at_ 2; have b3 := k1.at_ 3; have b4 := k1.at_ 4
    have f0 := k1.free 0; have f1 := k1.free 1; have f2 := k1.free 2; have f3 := k1.free 3; have f4 := k1.free 4
    have k2 := H0.out.2.2.2
    have d0 := k2.at_ 0; have d1 := k2.at_ 1; have d2 := k2.at_ 2; have d3 := k2.at_ 3; have d4 := k2.at_ 4
    have q0 := k2.free 0; have q1 := k2.free 1; have q2 := k2.free 2; have q3 := k2.free 3; have q4 := k2.free 4
    simp only [refC, lseC, lse0, List.getElem?_toArray, List.getElem?_cons_zero, List.getElem?_cons_succ] at b0 b1 b2 b3 b4 d0 d1 d2 d3 d4
    clear k1 k2
    go_wp2_with fail
    have hs1 := onlyT w' (w.heap.size + 1) n tt l e (.slice A L.length c)
    have hs2 := only5 (setT w' (w.heap.size + 1) n tt l e (.slice A L.length c)) (w.heap.size + 2) lse0
    have hH1 := (storedT H0.out.2.2.1 n tt l e (.slice A L.length c)).only hs2 (ne_some (by omega))
    have hH2 := stored5 (H0.out.2.2.2.only hs1 (ne_some (by omega))) lse0
    have hbb := (H0.out.1.grown hs1 H0.out.1.size (fun k hk => by injection hk with hk; omega)).grown hs2 (Nat.le_trans H0.out.1.size hs1.size) (fun k hk => by injection hk with hk; omega)
    have hP : RTakeP B n tt l w r (.returned (.tuple #[refV n tt l e (.slice A L.length c), lseV lse0, .int .i64 (-1), .int .i64 17])) (set5 (setT w' (w.heap.size + 1) n tt l e (.slice A L.length c)) (w.heap.size + 2) lse0) := by
      rw [HRES.out]
      exact ⟨⟨_, rfl, H.out.rest hbb⟩, hbb⟩
    exact bodyPost_ret_by (results_row2_tmp2 (p := 10) (p2 := 11) (u := 12) (v := 13) rfl _ _ (w.heap.size + 1) (w.heap.size + 2) 44 71 (refC n tt l e (.slice A L.length c)) (lseV lse0).cells _ _ rfl hH1 Tryd.underlying44 rfl (by kernel_rfl) rfl hH2 Tryd.underlying71 rfl (by kernel_rfl)) rfl hP
  have HV1 := Lib.hid hv1
  have hc := fun W => rvalid_calls t HS.out.1 W
  rw [hv1] at hc
  have HC := Lib.hid hc
  clear hc
  refine (HC.out _).mono ?_
  rintro e w' ⟨rfl, rfl⟩
  clear HC
  clear hv1
  go_wp2_with fail
  cases hv2 : validB a
  · have HRES := Lib.hid (show r = ⟨L, e, lse0, -1, 17⟩ by rw [HR.out]; unfold takeM; rw [HV1.out, hv2]; rfl)
    have hc := fun W => rvalid_calls a HS.out.2 W
    rw [hv2] at hc
    have HC := Lib.hid hc
    clear hc
    refine (HC.out _).mono ?_
    rintro e w' ⟨rfl, rfl⟩
    clear HC
    clear hv2
    have c0 : World.cell? w' ⟨w.heap.size, 0, none⟩ = some (.int .i64 n) := by rw [H0.out.2.1.at_]; rfl
    have c1 : World.cell? w' ⟨w.heap.size, 1, none⟩ = some (.int .i64 tt) := by rw [H0.out.2.1.at_]; rfl
    have c2 : World.cell? w' ⟨w.heap.size, 2, none⟩ = some (.int .i64 l) := by rw [H0.out.2.1.at_]; rfl
    have c3 : World.cell? w' ⟨w.heap.size, 3, none⟩ = some (.int .i64 e) := by rw [H0.out.2.1.at_]; rfl
    have c4 : World.cell? w' ⟨w.heap.size, 4, none⟩ = some (.slice A L.length c) := by rw [H0.out.2.1.at_]; rfl
    have k1 := H0.out.2.2.1
    have b0 := k1.at_ 0; have b1 := k1.at_ 1; have b2 := k1.at_ 2; have b3 := k1.at_ 3; have b4 := k1.at_ 4
    have f0 := k1.free 0; have f1 := k1.free 1; have f2 := k1.free 2; have f3 := k1.free 3; have f4 := k1.free 4
    have k2 := H0.out.2.2.2
    have d0 := k2.at_ 0; have d1 := k2.at_ 1; have d2 := k2.at_ 2; have d3 := k2.at_ 3; have d4 := k2.at_ 4
    have q0 := k2.free 0; have q1 := k2.free 1; have q2 := k2.free 2; have q3 := k2.free 3; have q4 := k2.free 4
    simp only [refC, lseC, lse0, List.getElem?_toArray, List.getElem?_cons_zero, List.getElem?_cons_succ] at b0 b1 b2 b3 b4 d0 d1 d2 d3 d4
    clear k1 k2
    go_wp2_with fail
    have hs1 := onlyT w' (w.heap.size + 1) n tt l e (.slice A L.length c)
    have hs2 := only5 (setT w' (w.heap.size + 1) n tt l e (.slice A L.length c)) (w.heap.size + 2) lse0
    have hH1 := (storedT H0.out.2.2.1 n tt l e (.slice A L.length c)).only hs2 (ne_some (by omega))
    have hH2 := stored5 (H0.out.2.2.2.only hs1 (ne_some (by omega))) lse0
    have hbb := (H0.out.1.grown hs1 H0.out.1.size (fun k hk => by injection hk with hk; omega)).grown hs2 (Nat.le_trans H0.out.1.size hs1.size) (fun k hk => by injection hk with hk; omega)
    have hP : RTakeP B n tt l w r (.returned (.tuple #[refV n tt l e (.slice A L.length c), lseV lse0, .int .i64 (-1), .int .i64 17])) (set5 (setT w' (w.heap.size + 1) n tt l e (.slice A L.length c)) (w.heap.size + 2) lse0) := by
      rw [HRES.out]
      exact ⟨⟨_, rfl, H.out.rest hbb⟩, hbb⟩
    exact bodyPost_ret_by (results_row2_tmp2 (p := 10) (p2 := 11) (u := 12) (v := 13) rfl _ _ (w.heap.size + 1) (w.heap.size + 2) 44 71 (refC n tt l e (.slice A L.length c)) (lseV lse0).cells _ _ rfl hH1 Tryd.underlying44 rfl (by kernel_rfl) rfl hH2 Tryd.underlying71 rfl (by kernel_rfl)) rfl hP
  have HV2 := Lib.hid hv2
  have hc := fun W => rvalid_calls a HS.out.2 W
  rw [hv2] at hc
  have HC := Lib.hid hc
  clear hc
  refine (HC.out _).mono ?_
  rintro e w' ⟨rfl, rfl⟩
  clear HC
  clear hv2
  have HR2 := Lib.hid (show r = (match lookL L t a with
    | some y => if y.o = o then ⟨L, e, lse0, -1, 9⟩ else newM L e t a o now y.o
    | none => if n ≤ (cntL L t : Int) then ⟨L, e, lse0, -1, 16⟩ else if tt ≤ (L.length : Int) then ⟨L, e, lse0, -1, 7⟩ else newM L e t a o now (-1)) by
    rw [HR.out]; unfold takeM; rw [HV1.out, HV2.out]; rfl)
  have c0 : World.cell? w' ⟨w.heap.size, 0, none⟩ = some (.int .i64 n) := by rw [H0.out.2.1.at_]; rfl
  have c1 : World.cell? w' ⟨w.heap.size, 1, none⟩ = some (.int .i64 tt) := by rw [H0.out.2.1.at_]; rfl
  have c2 : World.cell? w' ⟨w.heap.size, 2, none⟩ = some (.int .i64 l) := by rw [H0.out.2.1.at_]; rfl
  have c3 : World.cell? w' ⟨w.heap.size, 3, none⟩ = some (.int .i64 e) := by rw [H0.out.2.1.at_]; rfl
  have c4 : World.cell? w' ⟨w.heap.size, 4, none⟩ = some (.slice A L.length c) := by rw [H0.out.2.1.at_]; rfl
  go_wp2_with fail
  refine (at_calls n tt l e B (.slice A L.length c) L HB.out.2.2.1 t a _ (H.out.rest H0.out.1)).mono ?_
  rintro e W1 ⟨rfl, hb1⟩
  have H1 := Lib.hid (H0.out.quiet hb1)
  clear hb1 c0 c1 c2 c3 c4
  rcases pos_cases L t a with ⟨k, y, hy, hlk, hpos⟩ | ⟨hlk, hpos⟩
  · rw [hpos]
    have HR3 := Lib.hid (show r = if y.o = o then ⟨L, e, lse0, -1, 9⟩ else newM L e t a o now y.o by rw [HR2.out, hlk])
    obtain ⟨gv, cap2, hv, _, _, hcell⟩ := (H.out.rest H1.out.1).at_ hy
    injection hv with hv1 hv2 hv3
    subst hv1; subst hv3
    have y2 : W1.cell? ⟨gv, k * 5 + 2, none⟩ = some (.int .i64 y.o) := (hcell 2 _ rfl).1
    have hkl : (k : Int) < L.length := by have := (List.getElem?_eq_some_iff.1 hy).1; omega
    have hk0 : (0 : Int) ≤ (k : Int) := by omega
    have HY := Lib.hid hy
    clear hy hlk hpos hcell hv2
    by_cases ho : y.o = o
    · have HRES := Lib.hid (show r = ⟨L, e, lse0, -1, 9⟩ by rw [HR3.out, if_pos ho])
      have hob : (y.o == o) = true := by simp [ho]
      clear ho
      have c0 : World.cell? W1 ⟨w.heap.size, 0, none⟩ = some (.int .i64 n) := by rw [H1.out.2.1.at_]; rfl
      have c1 : World.cell? W1 ⟨w.heap.size, 1, none⟩ = some (.int .i64 tt) := by rw [H1.out.2.1.at_]; rfl
      have c2 : World.cell? W1 ⟨w.heap.size, 2, none⟩ = some (.int .i64 l) := by rw [H1.out.2.1.at_]; rfl
      have c3 : World.cell? W1 ⟨w.heap.size, 3, none⟩ = some (.int .i64 e) := by rw [H1.out.2.1.at_]; rfl
      have c4 : World.cell? W1 ⟨w.heap.size, 4, none⟩ = some (.slice (some ⟨gv, 0, none⟩) L.length c) := by rw [H1.out.2.1.at_]; rfl
      have k1 := H1.out.2.2.1
      have b0 := k1.at_ 0; have b1 := k1.at_ 1; have b2 := k1.at_ 2; have b3 := k1.at_ 3; have b4 := k1.at_ 4
      have f0 := k1.free 0; have f1 := k1.free 1; have f2 := k1.free 2; have f3 := k1.free 3; have f4 := k1.free 4
      have k2 := H1.out.2.2.2
      have d0 := k2.at_ 0; have d1 := k2.at_ 1; have d2 := k2.at_ 2; have d3 := k2.at_ 3; have d4 := k2.at_ 4
      have q0 := k2.free 0; have q1 := k2.free 1; have q2 := k2.free 2; have q3 := k2.free 3; have q4 := k2.free 4
      simp only [refC, lseC, lse0, List.getElem?_toArray, List.getElem?_cons_zero, List.getElem?_cons_succ] at b0 b1 b2 b3 b4 d0 d1 d2 d3 d4
      clear k1 k2
      go_wp2_with fail
      have hs1 := onlyT W1 (w.heap.size + 1) n tt l e (.slice (some ⟨gv, 0, none⟩) L.length c)
      have hs2 := only5 (setT W1 (w.heap.size + 1) n tt l e (.slice (some ⟨gv, 0, none⟩) L.length c)) (w.heap.size + 2) lse0
      have hH1 := (storedT H1.out.2.2.1 n tt l e (.slice (some ⟨gv, 0, none⟩) L.length c)).only hs2 (ne_some (by omega))
      have hH2 := stored5 (H1.out.2.2.2.only hs1 (ne_some (by omega))) lse0
      have hbb := (H1.out.1.grown hs1 H1.out.1.size (fun k hk => by injection hk with hk; omega)).grown hs2 (Nat.le_trans H1.out.1.size hs1.size) (fun k hk => by injection hk with hk; omega)
      have hP : RTakeP B n tt l w r (.returned (.tuple #[refV n tt l e (.slice (some ⟨gv, 0, none⟩) L.length c), lseV lse0, .int .i64 (-1), .int .i64 9])) (set5 (setT W1 (w.heap.size + 1) n tt l e (.slice (some ⟨gv, 0, none⟩) L.length c)) (w.heap.size + 2) lse0) := by
        rw [HRES.out]
        exact ⟨⟨_, rfl, H.out.rest hbb⟩, hbb⟩
      exact bodyPost_ret_by (results_row2_tmp2 (p := 10) (p2 := 11) (u := 12) (v := 13) rfl _ _ (w.heap.size + 1) (w.heap.size + 2) 44 71 (refC n tt l e (.slice (some ⟨gv, 0, none⟩) L.length c)) (lseV lse0).cells _ _ rfl hH1 Tryd.underlying44 rfl (by kernel_rfl) rfl hH2 Tryd.underlying71 rfl (by kernel_rfl)) rfl hP
    · have HRES := Lib.hid (show r = newM L e t a o now y.o by rw [HR3.out, if_neg ho])
      have hob : (y.o == o) = false := by simp [ho]
      clear ho
      have c0 : World.cell? W1 ⟨w.heap.size, 0, none⟩ = some (.int .i64 n) := by rw [H1.out.2.1.at_]; rfl
      have c1 : World.cell? W1 ⟨w.heap.size, 1, none⟩ = some (.int .i64 tt) := by rw [H1.out.2.1.at_]; rfl
      have c2 : World.cell? W1 ⟨w.heap.size, 2, none⟩ = some (.int .i64 l) := by rw [H1.out.2.1.at_]; rfl
      have c3 : World.cell? W1 ⟨w.heap.size, 3, none⟩ = some (.int .i64 e) := by rw [H1.out.2.1.at_]; rfl
      have c4 : World.cell? W1 ⟨w.heap.size, 4, none⟩ = some (.slice (some ⟨gv, 0, none⟩) L.length c) := by rw [H1.out.2.1.at_]; rfl
      go_upto_region 9 with fail
      go_cut [66] (fun s66 wx => s66 = .bool false ∧ Taking w wx n tt l e (.slice (some ⟨gv, 0, none⟩) L.length c))
      case first =>
        have hd0 : decide ((k : Int) < 0) = false := by simp
        go_quiet (fail)
        go_wp2_with fail
        go_meet
        exact ⟨rfl, H1.out.quiet (below_drawnN (Below.refl _ _) _)⟩
      case rest =>
        obtain ⟨rfl, hT⟩ := hcut
        have HT := Lib.hid hT
        clear hT c0 c1 c2 c3 c4 y2
        have c0 : World.cell? wc ⟨w.heap.size, 0, none⟩ = some (.int .i64 n) := by rw [HT.out.2.1.at_]; rfl
        have c1 : World.cell? wc ⟨w.heap.size, 1, none⟩ = some (.int .i64 tt) := by rw [HT.out.2.1.at_]; rfl
        have c2 : World.cell? wc ⟨w.heap.size, 2, none⟩ = some (.int .i64 l) := by rw [HT.out.2.1.at_]; rfl
        have c3 : World.cell? wc ⟨w.heap.size, 3, none⟩ = some (.int .i64 e) := by rw [HT.out.2.1.at_]; rfl
        have c4 : World.cell? wc ⟨w.heap.size, 4, none⟩ = some (.slice (some ⟨gv, 0, none⟩) L.length c) := by rw [HT.out.2.1.at_]; rfl
        have f3 : World.frozen? wc ⟨w.heap.size, 3, none⟩ = false := HT.out.2.1.free 3
        have he1 := HB.out.1.1
        have he2 := HB.out.1.2
        go_upto_region 14 with fail
        clear c0 c1 c2 c3 c4 f3 he1 he2
        refine name_wp (fun W4 => Taking w W4 n tt l (e + 1) (.slice (some ⟨gv, 0, none⟩) L.length c)) ?_ ?_
        · have hs := only_stored (w := wc) (g := w.heap.size) ⟨w.heap.size, 3, none⟩ rfl (.int .i64 (e + 1))
          have hx : Taking w (World.setCell wc ⟨w.heap.size, 3, none⟩ (.int .i64 (e + 1))) n tt l (e + 1) (.slice (some ⟨gv, 0, none⟩) L.length c) := ⟨HT.out.1.grown hs HT.out.1.size (fun k hk => by injection hk with hk; omega), HT.out.2.1.stored 3 (.int .i64 (e + 1)), HT.out.2.2.1.only hs (ne_some (by omega)), HT.out.2.2.2.only hs (ne_some (by omega))⟩
          first | exact hx | exact hx.quiet (below_drawnN (Below.refl _ _) _)
        intro W4 hF4
        have HF4 := Lib.hid hF4
        clear hF4
        have c3 : W4.cell? ⟨w.heap.size, 3, none⟩ = some (.int .i64 (e + 1)) := by rw [HF4.out.2.1.at_]; rfl
        obtain ⟨z, hz⟩ : ∃ z : Lse, z = ⟨t, a, o, e + 1, tickI now⟩ := ⟨_, rfl⟩
        have HZ := Lib.hid hz
        clear hz
        go_cut [16] (fun s16 wx => ∃ n5 : Nat, s16 = .pointer (some ⟨n5, 0, none⟩) ∧ Taking w wx n tt l (e + 1) (.slice (some ⟨gv, 0, none⟩) L.length c) ∧ Whole wx n5 71 (lseC z).toArray ∧ w.heap.size + 2 < n5)
        case first =>
          obtain ⟨tk, htk⟩ : ∃ tk, tk = tickI now := ⟨_, rfl⟩
          have HTK := Lib.hid htk
          have HTC := Lib.hid (show ∀ W, Calls Tryd.prog 40 #[.int .i64 now] W fun e w' => e = .returned (.int .i64 tk) ∧ w' = W from fun W => by rw [htk]; exact rtick_calls now W)
          clear htk
          go_region_held3 (fun w' => w'.cell? ⟨w.heap.size, 3, none⟩ = some (.int .i64 (e + 1))) (go_keep)
            ((go_at_call 40; refine (HTC.out _).mono ?_; rintro e w' ⟨rfl, rfl⟩))
          all_goals go_wp2_with fail
          all_goals go_meet
          all_goals
            have hb := below_drawnN ((Below.refl W4.heap.size W4).alloc (Nat.le_refl _) (.cells #[Value.string t, Value.string a, Value.int IntKind.i64 o, Value.int IntKind.i64 (e + 1), Value.int IntKind.i64 tk] 71)) 1
            exact ⟨W4.heap.size, rfl, HF4.out.quiet hb, (Whole.new rfl (by rw [HZ.out, ← HTK.out]; rfl)).drew, HF4.out.2.2.2.inside⟩
        case rest =>
          obtain ⟨n5, rfl, hT5, hW5, hn5⟩ := hcut
          have HF5 := Lib.hid (And.intro hT5 (And.intro hW5 hn5))
          have c4 : World.cell? wc ⟨w.heap.size, 4, none⟩ = some (.slice (some ⟨gv, 0, none⟩) L.length c) := by rw [hT5.2.1.at_]; rfl
          clear hT5 hW5 hn5 c3
          obtain ⟨sv, hsv⟩ : ∃ sv : Value, sv = (.slice (some ⟨gv, 0, none⟩) L.length c) := ⟨_, rfl⟩
          go_upto_region 16 with fail
          refine name_wp (fun W => Placing w W n tt l (e + 1) sv n5 z (.slice (some ⟨wc.heap.size, 0, none⟩) 0 0) []) ?_ ?_
          · have hb : Below wc.heap.size wc (wc.alloc (.cells #[] 71)) := (Below.refl _ _).alloc (Nat.le_refl _) _
            rw [hsv]
            exact ⟨Lows.empty (by have := HF5.out.2.1.inside; omega), HF5.out.1.quiet hb, HF5.out.2.1.alloc _, by have := HF5.out.2.1.inside; simp; omega, HF5.out.2.2⟩
          intro W6 hF6
          have HP0 := Lib.hid hF6
          have c4 : W6.cell? ⟨w.heap.size, 4, none⟩ = some (.slice (some ⟨gv, 0, none⟩) L.length c) := by rw [hF6.2.1.2.1.at_, hsv]; rfl
          clear hF6 hsv
          go_wp2_with fail
          clear c4
          go_loopg [17, 18, 97] L.length (fun gq s u i wr => ∃ q : Nat, gq + q = L.length ∧ i = .int .i64 q ∧ u = .bool ((L.take q).any fun y => ltL z y) ∧ Placing w wr n tt l (e + 1) sv n5 z s (accI z (L.take q)))
          case atStart => exact ⟨0, rfl, rfl, rfl, HP0.out⟩
          case round =>
            obtain ⟨q, hgq, rfl, hu, hpl⟩ := hrel
            have HA2 := Lib.hid (And.intro hpl hgq)
            obtain ⟨an, han⟩ : ∃ an, an = ((L.take q).any fun y => ltL z y) := ⟨_, rfl⟩
            rw [← han] at hu
            have HAN := Lib.hid han
            subst hu
            clear hpl han
            by_cases hlt : q < L.length
            · obtain ⟨y, hy⟩ : ∃ y, L[q]? = some y := ⟨L[q], List.getElem?_eq_getElem hlt⟩
              obtain ⟨gx, cx, hv, _, _, hcell⟩ := (H.out.rest HA2.out.1.2.1.1).at_ hy
              cases hv
              have f0 : World.cell? wr ⟨_, q * 5, none⟩ = some (.string y.t) := (hcell 0 _ rfl).1
              have f1 : World.cell? wr ⟨_, q * 5 + 1, none⟩ = some (.string y.a) := (hcell 1 _ rfl).1
              have f2 : World.cell? wr ⟨_, q * 5 + 2, none⟩ = some (.int .i64 y.o) := (hcell 2 _ rfl).1
              have f3 : World.cell? wr ⟨_, q * 5 + 3, none⟩ = some (.int .i64 y.e) := (hcell 3 _ rfl).1
              have f4 : World.cell? wr ⟨_, q * 5 + 4, none⟩ = some (.int .i64 y.l) := (hcell 4 _ rfl).1
              have HYQ := Lib.hid hy
              have hqi : (q : Int) < L.length := by omega
              have HZN := Lib.hid (show z.t = t ∧ z.a = a by rw [HZ.out]; exact ⟨rfl, rfl⟩)
              clear hy hcell hgq
              by_cases hsame : y.t = t ∧ y.a = a
              · have e1 : (y.t.toList == t.toList) = true := by rw [hsame.1]; simp
                have e2 : (y.a.toList == a.toList) = true := by rw [hsame.2]; simp
                have HE := Lib.hid (accI_same (x := z) HYQ.out (by rw [HZN.out.1]; exact hsame.1) (by rw [HZN.out.2]; exact hsame.2))
                clear hsame
                go_wp2_with fail
                go_roundg (L.length - (q + 1))
                case measure => have := HA2.out.2; omega
                case rel =>
                  have hbq : Below wr.heap.size wr _ := (Below.refl wr.heap.size wr).alloc (Nat.le_refl _) (.cells (lseC y).toArray 71)
                  exact ⟨q + 1, by have := HA2.out.2; omega, by go_num, by rw [HE.out.2, HAN.out], by rw [HE.out.1]; exact HA2.out.1.quiet hbq⟩
              · have hp := place_of z y (by rw [HZN.out.1, HZN.out.2]; exact hsame)
                rw [HZN.out.1, HZN.out.2] at hp
                have HPL := Lib.hid hp
                obtain ⟨b1, hb1⟩ : ∃ b1, b1 = (y.t.toList == t.toList) := ⟨_, rfl⟩
                obtain ⟨b2, hb2⟩ : ∃ b2, b2 = (y.a.toList == a.toList) := ⟨_, rfl⟩
                have hnz : (b1 && b2) = false := by
                  rw [hb1, hb2]
                  by_cases h1 : y.t = t
                  · by_cases h2 : y.a = a
                    · exact absurd ⟨h1, h2⟩ hsame
                    · rw [str_ne h2]; simp
                  · rw [str_ne h1]; simp
                clear hp hsame
                have e1 := hb1.symm
                have e2 := hb2.symm
                clear hb1 hb2
                go_upto_region 20 with fail
                obtain ⟨g6, hg6⟩ : ∃ g6, g6 = wr.heap.size := ⟨_, rfl⟩
                rw [← hg6]
                have HG6 := Lib.hid hg6
                refine name_wp (fun W => Below wr.heap.size wr W ∧ Whole W g6 71 (lseC y).toArray) ⟨(Below.refl _ _).alloc (Nat.le_refl _) _, Whole.new hg6.symm rfl⟩ ?_
                intro W6 hF6
                have HF6 := Lib.hid hF6
                have k0 : W6.cell? ⟨g6, 0, none⟩ = some (.string y.t) := by rw [hF6.2.at_]; rfl
                have k1 : W6.cell? ⟨g6, 1, none⟩ = some (.string y.a) := by rw [hF6.2.at_]; rfl
                clear hF6 f0 f1 f2 f3 f4 hg6
                go_cut [97, 110] (fun s97 s110 wx => s97 = .int .i64 (q : Int) ∧ s110 = .bool false ∧ W6 = wx)
                case first =>
                  cases b1 <;> cases b2
                  all_goals try (exfalso; exact absurd hnz (by decide))
                  all_goals
                    clear hnz
                    go_wp2_with fail
                    go_meet
                    exact ⟨rfl, rfl, rfl⟩
                case rest =>
                obtain ⟨rfl, rfl, rfl⟩ := hcut
                clear e1 e2 hnz
                obtain ⟨tst, htst⟩ : ∃ tst, tst = (!an && ltL z y) := ⟨_, rfl⟩
                have HTS := Lib.hid htst
                clear htst
                go_upto_region 21 with fail
                go_cut [97, 130] (fun s97 s130 wx => s97 = .int .i64 (q : Int) ∧ s130 = .bool tst ∧ W6 = wx)
                case first =>
                  cases an
                  · rcases HPL.out with ⟨hlt2, h1 | ⟨h1, h2, h3⟩⟩ | ⟨hlt2, h1, h2 | ⟨h2, h3⟩⟩
                    · have HTT := Lib.hid (show tst = true by rw [HTS.out, hlt2]; rfl)
                      clear hlt2
                      go_wp2_with fail
                      go_meet
                      exact ⟨rfl, by rw [HTT.out], rfl⟩
                    · have HTT := Lib.hid (show tst = true by rw [HTS.out, hlt2]; rfl)
                      clear hlt2
                      go_wp2_with fail
                      go_meet
                      exact ⟨rfl, by rw [HTT.out], rfl⟩
                    · have HTT := Lib.hid (show tst = false by rw [HTS.out, show ltL z y = false from ltN_asymm hlt2]; rfl)
                      clear hlt2
                      go_wp2_with fail
                      go_meet
                      exact ⟨rfl, by rw [HTT.out], rfl⟩
                    · have HTT := Lib.hid (show tst = false by rw [HTS.out, show ltL z y = false from ltN_asymm hlt2]; rfl)
                      clear hlt2
                      go_wp2_with fail
                      go_meet
                      exact ⟨rfl, by rw [HTT.out], rfl⟩
                  · have HTT := Lib.hid (show tst = false by rw [HTS.out]; rfl)
                    go_wp2_with fail
                    go_meet
                    exact ⟨rfl, by rw [HTT.out], rfl⟩
                case rest =>
                obtain ⟨rfl, rfl, rfl⟩ := hcut
                clear k0 k1
                go_upto_if 130 with fail
                go_cut [17, 18, 97] (fun s17 s18 s97 wx => ∃ M, s97 = .int .i64 (q : Int) ∧ s18 = .bool ((L.take (q + 1)).any fun y => ltL z y) ∧ accI z (L.take (q + 1)) = M ++ [y] ∧ Placing w wx n tt l (e + 1) sv n5 z s17 M ∧ Whole wx g6 71 (lseC y).toArray)
                case first =>
                  cases hts : tst
                  · have HN := Lib.hid (step_no HB.out.2.1 HYQ.out HAN.out (by rw [← HTS.out]; exact hts) (HPL.out.elim (fun h => .inl h.1) (fun h => .inr h.1)))
                    clear hts
                    go_wp2_with fail
                    go_meet
                    exact ⟨_, rfl, by rw [HN.out.1], HN.out.2, HA2.out.1.quiet HF6.out.1, HF6.out.2⟩
                  · have HN := Lib.hid (step_yes HYQ.out HAN.out (by rw [← HTS.out]; exact hts))
                    clear hts
                    have w5 := (HA2.out.1.quiet HF6.out.1).2.2.1
                    have g0 : W6.cell? ⟨n5, 0, none⟩ = some (.string z.t) := by rw [w5.at_]; rfl
                    have g1 : W6.cell? ⟨n5, 1, none⟩ = some (.string z.a) := by rw [w5.at_]; rfl
                    have g2 : W6.cell? ⟨n5, 2, none⟩ = some (.int .i64 z.o) := by rw [w5.at_]; rfl
                    have g3 : W6.cell? ⟨n5, 3, none⟩ = some (.int .i64 z.e) := by rw [w5.at_]; rfl
                    have g4 : W6.cell? ⟨n5, 4, none⟩ = some (.int .i64 z.l) := by rw [w5.at_]; rfl
                    clear w5
                    go_wp2_with (first
                      | (at_builtin; refine wpList_pushL rfl _ _ 42 rfl (n5 + 1) 71 (lseV lse0) 56 Tryd.underlying42 rlseInfo rfl (by omega) _ (accI z (L.take q)) z rfl (((HA2.out.1.quiet HF6.out.1).1).kept (World.grownBy_alloc _ _ none) (own_or _)) W6.heap.size 1 rfl ?c3 ?c4 ?c5 ?_)
                      | fail)
                    case c3 => exact Whole.new rfl rfl
                    case c4 => have h1 := accI_length z (L.take q); rw [List.length_take] at h1; have := HB.out.2.2.1; omega
                    case c5 => have := (HA2.out.1.quiet HF6.out.1).2.2.2.1; simp; omega
                    intro v' W7 h7 hg7 hloc
                    have HP7 := Lib.hid (show Placing w W7 n tt l (e + 1) sv n5 z v' (accI z (L.take q) ++ [z]) ∧ Whole W7 g6 71 (lseC y).toArray from
                      ⟨((HA2.out.1.quiet HF6.out.1).quiet ((Below.refl _ _).alloc (Nat.le_refl _) (.cells (lseC z).toArray 71))).push h7 hg7, (HF6.out.2.alloc _).only hg7 (fun e => by have := (HA2.out.1.1.lt _ e.symm).2; have := HG6.out; omega)⟩)
                    clear h7 hg7 hloc g0 g1 g2 g3 g4
                    go_wp2_with fail
                    go_meet
                    exact ⟨_, rfl, by rw [HN.out.1], HN.out.2, HP7.out⟩
                case rest =>
                obtain ⟨M, rfl, rfl, hM, hpl, hwy⟩ := hcut
                have HM := Lib.hid (And.intro hM (And.intro hpl hwy))
                have g0 : World.cell? wc ⟨g6, 0, none⟩ = some (.string y.t) := by rw [hwy.at_]; rfl
                have g1 : World.cell? wc ⟨g6, 1, none⟩ = some (.string y.a) := by rw [hwy.at_]; rfl
                have g2 : World.cell? wc ⟨g6, 2, none⟩ = some (.int .i64 y.o) := by rw [hwy.at_]; rfl
                have g3 : World.cell? wc ⟨g6, 3, none⟩ = some (.int .i64 y.e) := by rw [hwy.at_]; rfl
                have g4 : World.cell? wc ⟨g6, 4, none⟩ = some (.int .i64 y.l) := by rw [hwy.at_]; rfl
                clear hM hpl hwy
                go_wp2_with (first
                  | (at_builtin; refine wpList_pushL rfl _ _ 42 rfl (n5 + 1) 71 (lseV lse0) 56 Tryd.underlying42 rlseInfo rfl (by omega) _ M y rfl (HM.out.2.1.1.kept (World.grownBy_alloc _ _ none) (own_or _)) (World.heap wc).size 1 rfl ?c3 ?c4 ?c5 ?_)
                  | fail)
                case c3 => exact Whole.new rfl rfl
                case c4 => have h1 := accI_length z (L.take (q + 1)); rw [HM.out.1, List.length_append, List.length_take] at h1; have := HB.out.2.2.1; omega
                case c5 => have := HM.out.2.1.2.2.2.1; simp; omega
                intro v' W7 h7 hg7 hloc
                have HP7 := Lib.hid (show Placing w W7 n tt l (e + 1) sv n5 z v' (accI z (L.take (q + 1))) by
                  rw [HM.out.1]
                  exact (HM.out.2.1.quiet ((Below.refl _ _).alloc (Nat.le_refl _) (.cells (lseC y).toArray 71))).push h7 hg7)
                clear h7 hg7 hloc g0 g1 g2 g3 g4
                go_wp2_with fail
                go_roundg (L.length - (q + 1))
                case measure => have := HA2.out.2; omega
                case rel => exact ⟨q + 1, by have := HA2.out.2; omega, by go_num, rfl, HP7.out⟩
            · have hql : q = L.length := by omega
              subst hql
              have HE := Lib.hid (show Placing w wr n tt l (e + 1) sv n5 z _ (accI z L) ∧ an = (L.any fun y => ltL z y) from ⟨by have := HA2.out.1; rwa [List.take_length] at this, by have := HAN.out; rwa [List.take_length] at this⟩)
              clear hgq
              go_upto_if 141 with fail
              go_cut [17, 18] (fun s17 s18 wx => Placing w wx n tt l (e + 1) sv n5 z s17 (insL z L))
              case first =>
                cases han : an
                · have HN := Lib.hid (accI_end (x := z) (L := L) (by rw [← HE.out.2]; exact han))
                  clear han
                  have w5 := HE.out.1.2.2.1
                  have g0 : wr.cell? ⟨n5, 0, none⟩ = some (.string z.t) := by rw [w5.at_]; rfl
                  have g1 : wr.cell? ⟨n5, 1, none⟩ = some (.string z.a) := by rw [w5.at_]; rfl
                  have g2 : wr.cell? ⟨n5, 2, none⟩ = some (.int .i64 z.o) := by rw [w5.at_]; rfl
                  have g3 : wr.cell? ⟨n5, 3, none⟩ = some (.int .i64 z.e) := by rw [w5.at_]; rfl
                  have g4 : wr.cell? ⟨n5, 4, none⟩ = some (.int .i64 z.l) := by rw [w5.at_]; rfl
                  clear w5
                  go_wp2_with (first
                    | (at_builtin; refine wpList_pushL rfl _ _ 42 rfl (n5 + 1) 71 (lseV lse0) 56 Tryd.underlying42 rlseInfo rfl (by omega) _ (accI z L) z rfl (HE.out.1.1.kept (World.grownBy_alloc _ _ none) (own_or _)) wr.heap.size 1 rfl ?c3 ?c4 ?c5 ?_)
                    | fail)
                  case c3 => exact Whole.new rfl rfl
                  case c4 => have h1 := accI_length z L; have := HB.out.2.2.1; omega
                  case c5 => have := HE.out.1.2.2.2.1; simp; omega
                  intro v' W7 h7 hg7 hloc
                  have HP7 := Lib.hid (show Placing w W7 n tt l (e + 1) sv n5 z v' (insL z L) by
                    rw [← HN.out]
                    exact (HE.out.1.quiet ((Below.refl _ _).alloc (Nat.le_refl _) (.cells (lseC z).toArray 71))).push h7 hg7)
                  clear h7 hg7 hloc g0 g1 g2 g3 g4
                  go_wp2_with fail
                  go_meet
                  exact HP7.out
                · have HN := Lib.hid (accI_done (x := z) (L := L) (by rw [← HE.out.2]; exact han))
                  clear han
                  go_wp2_with fail
                  go_meet
                  rw [← HN.out]
                  exact HE.out.1
              case rest =>
              obtain ⟨As, cs, hs⟩ := hcut.1.lens
              subst hs
              have HC := Lib.hid hcut
              clear hcut
              obtain ⟨N, hN⟩ : ∃ N, (insL z L).length = N := ⟨_, rfl⟩
              rw [hN] at HC ⊢
              have HN := Lib.hid hN
              have d4 : World.frozen? wc ⟨w.heap.size, 4, none⟩ = false := HC.out.2.1.2.1.free 4
              have c4 : World.cell? wc ⟨w.heap.size, 4, none⟩ = some sv := by rw [HC.out.2.1.2.1.at_]; rfl
              clear hN
              go_upto_region 29 with fail
              refine name_wp (fun W => Taking w W n tt l (e + 1) (.slice As N cs) ∧ Lows W (n5 + 1) 71 (.slice As N cs) (insL z L) ∧ Whole W n5 71 (lseC z).toArray) ?_ ?_
              · have hs1 := only_stored (w := wc) (g := w.heap.size) ⟨w.heap.size, 4, none⟩ rfl (.slice As N cs)
                obtain ⟨q1, ⟨r1, r2, r3, r4⟩, q3, q4, q5⟩ := HC.out
                exact ⟨⟨r1.grown hs1 r1.size (fun k hk => by injection hk with hk; omega), r2.stored 4 _, r3.only hs1 (ne_some (by omega)), r4.only hs1 (ne_some (by omega))⟩, q1.kept hs1 (.inr (fun h => by have := (q1.lt _ h).1; omega)), q3.only hs1 (ne_some (by omega))⟩
              intro W8 hF8
              have HF8 := Lib.hid hF8
              have c0 : W8.cell? ⟨w.heap.size, 0, none⟩ = some (.int .i64 n) := by rw [hF8.1.2.1.at_]; rfl
              have c1 : W8.cell? ⟨w.heap.size, 1, none⟩ = some (.int .i64 tt) := by rw [hF8.1.2.1.at_]; rfl
              have c2 : W8.cell? ⟨w.heap.size, 2, none⟩ = some (.int .i64 l) := by rw [hF8.1.2.1.at_]; rfl
              have c3 : W8.cell? ⟨w.heap.size, 3, none⟩ = some (.int .i64 (e + 1)) := by rw [hF8.1.2.1.at_]; rfl
              have c4 : W8.cell? ⟨w.heap.size, 4, none⟩ = some (.slice As N cs) := by rw [hF8.1.2.1.at_]; rfl
              have k3 := hF8.2.2
              have g0 : W8.cell? ⟨n5, 0, none⟩ = some (.string z.t) := by rw [k3.at_]; rfl
              have g1 : W8.cell? ⟨n5, 1, none⟩ = some (.string z.a) := by rw [k3.at_]; rfl
              have g2 : W8.cell? ⟨n5, 2, none⟩ = some (.int .i64 z.o) := by rw [k3.at_]; rfl
              have g3 : W8.cell? ⟨n5, 3, none⟩ = some (.int .i64 z.e) := by rw [k3.at_]; rfl
              have g4 : W8.cell? ⟨n5, 4, none⟩ = some (.int .i64 z.l) := by rw [k3.at_]; rfl
              have k1 := hF8.1.2.2.1
              have b0 := k1.at_ 0; have b1 := k1.at_ 1; have b2 := k1.at_ 2; have b3 := k1.at_ 3; have b4 := k1.at_ 4
              have f0 := k1.free 0; have f1 := k1.free 1; have f2 := k1.free 2; have f3 := k1.free 3; have f4 := k1.free 4
              have k2 := hF8.1.2.2.2
              have j0 := k2.at_ 0; have j1 := k2.at_ 1; have j2 := k2.at_ 2; have j3 := k2.at_ 3; have j4 := k2.at_ 4
              have q0 := k2.free 0; have q1 := k2.free 1; have q2 := k2.free 2; have q3 := k2.free 3; have q4 := k2.free 4
              simp only [refC, lseC, lse0, List.getElem?_toArray, List.getElem?_cons_zero, List.getElem?_cons_succ] at b0 b1 b2 b3 b4 j0 j1 j2 j3 j4
              have hne := HC.out.2.2.2.2
              clear k1 k2 k3 hF8 d4
              have hn3 : ¬ w.heap.size + 1 = w.heap.size + 1 + 1 := by omega
              have hn5 : ¬ w.heap.size + 1 + 1 = w.heap.size + 1 := by omega
              have hn1 : ¬ n5 = w.heap.size + 1 := by omega
              have hn2 : ¬ n5 = w.heap.size + 1 + 1 := by omega
              have hn7 : ¬ w.heap.size = w.heap.size + 1 := by omega
              have hn8 : ¬ w.heap.size = w.heap.size + 1 + 1 := by omega
              clear c0 c1 c2 c3 c4 g0 g1 g2 g3 g4 b0 b1 b2 b3 b4 f0 f1 f2 f3 f4 j0 j1 j2 j3 j4 q0 q1 q2 q3 q4
              have r1 := row_is (m := 5) HF8.out.1.2.1 rfl
              have r2 := row_is (m := 5) HF8.out.2.2 rfl
              have l1 := lies_of (m := 5) HF8.out.1.2.1 rfl
              have l2 := lies_of (m := 5) HF8.out.2.2 rfl
              have l3 := lies_of (m := 5) HF8.out.1.2.2.1 rfl
              have l4 : Lies W8 (.pointer (some ⟨w.heap.size + 1 + 1, 0, none⟩)) 5 := lies_of (m := 5) HF8.out.1.2.2.2 rfl
              have o1 := rowOf_T n tt l (e + 1) (.slice As N cs) rfl
              have o2 := rowOf_L z
              unfold refV at o1
              unfold lseV at o2
              simp only [refC, lseC] at r1 r2
              obtain ⟨F1, hF1⟩ : ∃ F1, F1 = (W8.drew.setCells (w.heap.size + 1) 0 [Value.int IntKind.i64 n, Value.int IntKind.i64 tt, Value.int IntKind.i64 l, Value.int IntKind.i64 (e + 1), Value.slice As N cs]).setCells (w.heap.size + 1 + 1) 0 [Value.string z.t, Value.string z.a, Value.int IntKind.i64 z.o, Value.int IntKind.i64 z.e, Value.int IntKind.i64 z.l] := ⟨_, rfl⟩
              obtain ⟨F2, hF2⟩ : ∃ F2, F2 = (W8.drew.setCells (w.heap.size + 1 + 1) 0 [Value.string z.t, Value.string z.a, Value.int IntKind.i64 z.o, Value.int IntKind.i64 z.e, Value.int IntKind.i64 z.l]).setCells (w.heap.size + 1) 0 [Value.int IntKind.i64 n, Value.int IntKind.i64 tt, Value.int IntKind.i64 l, Value.int IntKind.i64 (e + 1), Value.slice As N cs] := ⟨_, rfl⟩
              have HF1 := Lib.hid hF1
              have HF2 := Lib.hid hF2
              have hE1 : Whole F1 (w.heap.size + 1) 44 (refC n tt l (e + 1) (.slice As N cs)) ∧ Whole F1 (w.heap.size + 1 + 1) 71 (lseC z).toArray ∧ Below w.heap.size w F1 ∧ Lows F1 w.heap.size 71 (.slice As N cs) (insL z L) := by
                have h := two_rows (W := W8.drew) (p := w.heap.size + 1) (q := w.heap.size + 1 + 1) (by omega) HF8.out.1.2.2.1.drew HF8.out.1.2.2.2.drew (refC n tt l (e + 1) (.slice As N cs)) (lseC z).toArray rfl rfl
                have hh : F1 = (W8.drew.setCells (w.heap.size + 1) 0 (refC n tt l (e + 1) (.slice As N cs)).toList).setCells (w.heap.size + 1 + 1) 0 (lseC z).toArray.toList := hF1
                rw [← hh] at h
                obtain ⟨a1, a2, W9, a3, a4⟩ := h
                have hen := HF8.out.1.ended HF8.out.2.1 (by omega) (by omega) (by omega) a3 a4 a3.size
                exact ⟨a1, a2, hen.1, hen.2⟩
              have hE2 : Whole F2 (w.heap.size + 1) 44 (refC n tt l (e + 1) (.slice As N cs)) ∧ Whole F2 (w.heap.size + 1 + 1) 71 (lseC z).toArray ∧ Below w.heap.size w F2 ∧ Lows F2 w.heap.size 71 (.slice As N cs) (insL z L) := by
                have h := two_rows (W := W8.drew) (p := w.heap.size + 1 + 1) (q := w.heap.size + 1) (by omega) HF8.out.1.2.2.2.drew HF8.out.1.2.2.1.drew (lseC z).toArray (refC n tt l (e + 1) (.slice As N cs)) rfl rfl
                have hh : F2 = (W8.drew.setCells (w.heap.size + 1 + 1) 0 (lseC z).toArray.toList).setCells (w.heap.size + 1) 0 (refC n tt l (e + 1) (.slice As N cs)).toList := hF2
                rw [← hh] at h
                obtain ⟨a1, a2, W9, a3, a4⟩ := h
                have hen := HF8.out.1.ended HF8.out.2.1 (by omega) (by omega) (by omega) a3 a4 a3.size
                exact ⟨a2, a1, hen.1, hen.2⟩
              have HE1 := Lib.hid hE1
              have HE2 := Lib.hid hE2
              clear hE1 hE2 hF1 hF2
              go_region_with (fail)
              all_goals clear r1 r2 l1 l2 l3 l4 o1 o2 hn1 hn2 hn3 hn5 hn7 hn8
              all_goals go_simp
              all_goals (refine ‹∀ (a : Go.Act) (w_1 : World), Code.wp Tryd.prog Code.ret _ a w_1 → _› _ _ (wp_ret ?_))
              all_goals
                have hr : r = ⟨insL z L, e + 1, z, y.o, 0⟩ := by rw [HRES.out, HZ.out]; rfl
                first
                  | (rw [← HF1.out]
                     have hE := HE1.out)
                  | (rw [← HF2.out]
                     have hE := HE2.out)
                obtain ⟨hH1, hH2, hb9, hl9⟩ := hE
                have hP : ∀ F, Below w.heap.size w F → Lows F w.heap.size 71 (.slice As N cs) (insL z L) → RTakeP B n tt l w r (.returned (.tuple #[refV n tt l (e + 1) (.slice As N cs), lseV z, .int .i64 y.o, .int .i64 0])) F := by
                  intro F k1 k2
                  rw [hr]
                  exact ⟨⟨_, rfl, k2.less HB.out.2.2.2⟩, k1⟩
                exact bodyPost_ret_by (results_row2_tmp2 (p := 10) (p2 := 11) (u := 12) (v := 13) rfl _ _ (w.heap.size + 1) (w.heap.size + 1 + 1) 44 71 (refC n tt l (e + 1) (.slice As N cs)) (lseC z).toArray _ _ rfl hH1 Tryd.underlying44 rfl (by kernel_rfl) rfl hH2 Tryd.underlying71 rfl (by kernel_rfl)) rfl (hP _ hb9 hl9)
  · rw [hpos]
    have HR3 := Lib.hid (show r = if n ≤ (cntL L t : Int) then ⟨L, e, lse0, -1, 16⟩ else if tt ≤ (L.length : Int) then ⟨L, e, lse0, -1, 7⟩ else newM L e t a o now (-1) by rw [HR2.out, hlk])
    have HLK := Lib.hid hlk
    clear hpos hlk
    have HK9 := Lib.hid (show ∀ W W3, Below W1.heap.size W1 W → Below W.heap.size W W3 → (W3.cell? ⟨w.heap.size, 0, none⟩ = some (.int .i64 n) ∧ W3.cell? ⟨w.heap.size, 1, none⟩ = some (.int .i64 tt) ∧ W3.cell? ⟨w.heap.size, 2, none⟩ = some (.int .i64 l) ∧ W3.cell? ⟨w.heap.size, 3, none⟩ = some (.int .i64 e) ∧ W3.cell? ⟨w.heap.size, 4, none⟩ = some (.slice A L.length c)) ∧ Taking w W3 n tt l e (.slice A L.length c) from fun W W3 hb hb3 => by
      have hq := (H1.out.quiet hb).quiet hb3
      exact ⟨⟨by rw [hq.2.1.at_]; rfl, by rw [hq.2.1.at_]; rfl, by rw [hq.2.1.at_]; rfl, by rw [hq.2.1.at_]; rfl, by rw [hq.2.1.at_]; rfl⟩, hq⟩)
    have HBW := Lib.hid (show ∀ W, Below W1.heap.size W1 W → Lows W B 71 (.slice A L.length c) L from fun W hb => H.out.rest (H1.out.quiet hb).1)
    have c0 : World.cell? W1 ⟨w.heap.size, 0, none⟩ = some (.int .i64 n) := by rw [H1.out.2.1.at_]; rfl
    have c1 : World.cell? W1 ⟨w.heap.size, 1, none⟩ = some (.int .i64 tt) := by rw [H1.out.2.1.at_]; rfl
    have c2 : World.cell? W1 ⟨w.heap.size, 2, none⟩ = some (.int .i64 l) := by rw [H1.out.2.1.at_]; rfl
    have c3 : World.cell? W1 ⟨w.heap.size, 3, none⟩ = some (.int .i64 e) := by rw [H1.out.2.1.at_]; rfl
    have c4 : World.cell? W1 ⟨w.heap.size, 4, none⟩ = some (.slice A L.length c) := by rw [H1.out.2.1.at_]; rfl
    go_upto_region 9 with fail
    go_cut [66] (fun s66 wx => s66 = .bool (decide (n ≤ (cntL L t : Int))) ∧ Taking w wx n tt l e (.slice A L.length c))
    case first =>
      go_region_with ((go_at_call 19; refine (rcount_calls n tt l e B (.slice A L.length c) L HB.out.2.2.1 t _ (HBW.out _ (by go_grown))).mono ?_; rintro e W3 ⟨rfl, hb3⟩; obtain ⟨⟨k0, k1, k2, k3, k4⟩, hb4⟩ := HK9.out _ _ (by go_grown) hb3; have H3 := Lib.hid hb4; clear hb3 hb4))
      all_goals go_wp2_with fail
      all_goals go_meet
      all_goals exact ⟨rfl, H3.out⟩
    case rest =>
    obtain ⟨rfl, hT⟩ := hcut
    have HT := Lib.hid hT
    clear hT c0 c1 c2 c3 c4
    by_cases h9 : n ≤ (cntL L t : Int)
    · have HRES := Lib.hid (show r = ⟨L, e, lse0, -1, 16⟩ by rw [HR3.out, if_pos h9])
      have hdd : decide (n ≤ (cntL L t : Int)) = true := by simp [h9]
      have c0 : World.cell? wc ⟨w.heap.size, 0, none⟩ = some (.int .i64 n) := by rw [HT.out.2.1.at_]; rfl
      have c1 : World.cell? wc ⟨w.heap.size, 1, none⟩ = some (.int .i64 tt) := by rw [HT.out.2.1.at_]; rfl
      have c2 : World.cell? wc ⟨w.heap.size, 2, none⟩ = some (.int .i64 l) := by rw [HT.out.2.1.at_]; rfl
      have c3 : World.cell? wc ⟨w.heap.size, 3, none⟩ = some (.int .i64 e) := by rw [HT.out.2.1.at_]; rfl
      have c4 : World.cell? wc ⟨w.heap.size, 4, none⟩ = some (.slice A L.length c) := by rw [HT.out.2.1.at_]; rfl
      have k1 := HT.out.2.2.1
      have b0 := k1.at_ 0; have b1 := k1.at_ 1; have b2 := k1.at_ 2; have b3 := k1.at_ 3; have b4 := k1.at_ 4
      have f0 := k1.free 0; have f1 := k1.free 1; have f2 := k1.free 2; have f3 := k1.free 3; have f4 := k1.free 4
      have k2 := HT.out.2.2.2
      have d0 := k2.at_ 0; have d1 := k2.at_ 1; have d2 := k2.at_ 2; have d3 := k2.at_ 3; have d4 := k2.at_ 4
      have q0 := k2.free 0; have q1 := k2.free 1; have q2 := k2.free 2; have q3 := k2.free 3; have q4 := k2.free 4
      simp only [refC, lseC, lse0, List.getElem?_toArray, List.getElem?_cons_zero, List.getElem?_cons_succ] at b0 b1 b2 b3 b4 d0 d1 d2 d3 d4
      clear k1 k2
      go_wp2_with fail
      have hs1 := onlyT wc (w.heap.size + 1) n tt l e (.slice A L.length c)
      have hs2 := only5 (setT wc (w.heap.size + 1) n tt l e (.slice A L.length c)) (w.heap.size + 2) lse0
      have hH1 := (storedT HT.out.2.2.1 n tt l e (.slice A L.length c)).only hs2 (ne_some (by omega))
      have hH2 := stored5 (HT.out.2.2.2.only hs1 (ne_some (by omega))) lse0
      have hbb := (HT.out.1.grown hs1 HT.out.1.size (fun k hk => by injection hk with hk; omega)).grown hs2 (Nat.le_trans HT.out.1.size hs1.size) (fun k hk => by injection hk with hk; omega)
      have hP : RTakeP B n tt l w r (.returned (.tuple #[refV n tt l e (.slice A L.length c), lseV lse0, .int .i64 (-1), .int .i64 16])) (set5 (setT wc (w.heap.size + 1) n tt l e (.slice A L.length c)) (w.heap.size + 2) lse0) := by
        rw [HRES.out]
        exact ⟨⟨_, rfl, H.out.rest hbb⟩, hbb⟩
      exact bodyPost_ret_by (results_row2_tmp2 (p := 10) (p2 := 11) (u := 12) (v := 13) rfl _ _ (w.heap.size + 1) (w.heap.size + 2) 44 71 (refC n tt l e (.slice A L.length c)) (lseV lse0).cells _ _ rfl hH1 Tryd.underlying44 rfl (by kernel_rfl) rfl hH2 Tryd.underlying71 rfl (by kernel_rfl)) rfl hP
    · have HR4 := Lib.hid (show r = if tt ≤ (L.length : Int) then ⟨L, e, lse0, -1, 7⟩ else newM L e t a o now (-1) by rw [HR3.out, if_neg h9])
      have hdd : decide (n ≤ (cntL L t : Int)) = false := by simp; omega
      by_cases h11 : tt ≤ (L.length : Int)
      · have HRES := Lib.hid (show r = ⟨L, e, lse0, -1, 7⟩ by rw [HR4.out, if_pos h11])
        have c0 : World.cell? wc ⟨w.heap.size, 0, none⟩ = some (.int .i64 n) := by rw [HT.out.2.1.at_]; rfl
        have c1 : World.cell? wc ⟨w.heap.size, 1, none⟩ = some (.int .i64 tt) := by rw [HT.out.2.1.at_]; rfl
        have c2 : World.cell? wc ⟨w.heap.size, 2, none⟩ = some (.int .i64 l) := by rw [HT.out.2.1.at_]; rfl
        have c3 : World.cell? wc ⟨w.heap.size, 3, none⟩ = some (.int .i64 e) := by rw [HT.out.2.1.at_]; rfl
        have c4 : World.cell? wc ⟨w.heap.size, 4, none⟩ = some (.slice A L.length c) := by rw [HT.out.2.1.at_]; rfl
        have k1 := HT.out.2.2.1
        have b0 := k1.at_ 0; have b1 := k1.at_ 1; have b2 := k1.at_ 2; have b3 := k1.at_ 3; have b4 := k1.at_ 4
        have f0 := k1.free 0; have f1 := k1.free 1; have f2 := k1.free 2; have f3 := k1.free 3; have f4 := k1.free 4
        have k2 := HT.out.2.2.2
        have d0 := k2.at_ 0; have d1 := k2.at_ 1; have d2 := k2.at_ 2; have d3 := k2.at_ 3; have d4 := k2.at_ 4
        have q0 := k2.free 0; have q1 := k2.free 1; have q2 := k2.free 2; have q3 := k2.free 3; have q4 := k2.free 4
        simp only [refC, lseC, lse0, List.getElem?_toArray, List.getElem?_cons_zero, List.getElem?_cons_succ] at b0 b1 b2 b3 b4 d0 d1 d2 d3 d4
        clear k1 k2
        go_wp2_with fail
        have hs1 := onlyT wc (w.heap.size + 1) n tt l e (.slice A L.length c)
        have hs2 := only5 (setT wc (w.heap.size + 1) n tt l e (.slice A L.length c)) (w.heap.size + 2) lse0
        have hH1 := (storedT HT.out.2.2.1 n tt l e (.slice A L.length c)).only hs2 (ne_some (by omega))
        have hH2 := stored5 (HT.out.2.2.2.only hs1 (ne_some (by omega))) lse0
        have hbb := (HT.out.1.grown hs1 HT.out.1.size (fun k hk => by injection hk with hk; omega)).grown hs2 (Nat.le_trans HT.out.1.size hs1.size) (fun k hk => by injection hk with hk; omega)
        have hP : RTakeP B n tt l w r (.returned (.tuple #[refV n tt l e (.slice A L.length c), lseV lse0, .int .i64 (-1), .int .i64 7])) (set5 (setT wc (w.heap.size + 1) n tt l e (.slice A L.length c)) (w.heap.size + 2) lse0) := by
          rw [HRES.out]
          exact ⟨⟨_, rfl, H.out.rest hbb⟩, hbb⟩
        exact bodyPost_ret_by (results_row2_tmp2 (p := 10) (p2 := 11) (u := 12) (v := 13) rfl _ _ (w.heap.size + 1) (w.heap.size + 2) 44 71 (refC n tt l e (.slice A L.length c)) (lseV lse0).cells _ _ rfl hH1 Tryd.underlying44 rfl (by kernel_rfl) rfl hH2 Tryd.underlying71 rfl (by kernel_rfl)) rfl hP
      · have HRES := Lib.hid (show r = newM L e t a o now (-1) by rw [HR4.out, if_neg h11])
        have c0 : World.cell? wc ⟨w.heap.size, 0, none⟩ = some (.int .i64 n) := by rw [HT.out.2.1.at_]; rfl
        have c1 : World.cell? wc ⟨w.heap.size, 1, none⟩ = some (.int .i64 tt) := by rw [HT.out.2.1.at_]; rfl
        have c2 : World.cell? wc ⟨w.heap.size, 2, none⟩ = some (.int .i64 l) := by rw [HT.out.2.1.at_]; rfl
        have c3 : World.cell? wc ⟨w.heap.size, 3, none⟩ = some (.int .i64 e) := by rw [HT.out.2.1.at_]; rfl
        have c4 : World.cell? wc ⟨w.heap.size, 4, none⟩ = some (.slice A L.length c) := by rw [HT.out.2.1.at_]; rfl
        have f3 : World.frozen? wc ⟨w.heap.size, 3, none⟩ = false := HT.out.2.1.free 3
        have he1 := HB.out.1.1
        have he2 := HB.out.1.2
        go_upto_region 14 with fail
        clear c0 c1 c2 c3 c4 f3 he1 he2
        refine name_wp (fun W4 => Taking w W4 n tt l (e + 1) (.slice A L.length c)) ?_ ?_
        · have hs := only_stored (w := wc) (g := w.heap.size) ⟨w.heap.size, 3, none⟩ rfl (.int .i64 (e + 1))
          have hx : Taking w (World.setCell wc ⟨w.heap.size, 3, none⟩ (.int .i64 (e + 1))) n tt l (e + 1) (.slice A L.length c) := ⟨HT.out.1.grown hs HT.out.1.size (fun k hk => by injection hk with hk; omega), HT.out.2.1.stored 3 (.int .i64 (e + 1)), HT.out.2.2.1.only hs (ne_some (by omega)), HT.out.2.2.2.only hs (ne_some (by omega))⟩
          first | exact hx | exact hx.quiet (below_drawnN (Below.refl _ _) _)
        intro W4 hF4
        have HF4 := Lib.hid hF4
        clear hF4
        have c3 : W4.cell? ⟨w.heap.size, 3, none⟩ = some (.int .i64 (e + 1)) := by rw [HF4.out.2.1.at_]; rfl
        obtain ⟨z, hz⟩ : ∃ z : Lse, z = ⟨t, a, o, e + 1, tickI now⟩ := ⟨_, rfl⟩
        have HZ := Lib.hid hz
        clear hz
        go_cut [16] (fun s16 wx => ∃ n5 : Nat, s16 = .pointer (some ⟨n5, 0, none⟩) ∧ Taking w wx n tt l (e + 1) (.slice A L.length c) ∧ Whole wx n5 71 (lseC z).toArray ∧ w.heap.size + 2 < n5)
        case first =>
          obtain ⟨tk, htk⟩ : ∃ tk, tk = tickI now := ⟨_, rfl⟩
          have HTK := Lib.hid htk
          have HTC := Lib.hid (show ∀ W, Calls Tryd.prog 40 #[.int .i64 now] W fun e w' => e = .returned (.int .i64 tk) ∧ w' = W from fun W => by rw [htk]; exact rtick_calls now W)
          clear htk
          go_region_held3 (fun w' => w'.cell? ⟨w.heap.size, 3, none⟩ = some (.int .i64 (e + 1))) (go_keep)
            ((go_at_call 40; refine (HTC.out _).mono ?_; rintro e w' ⟨rfl, rfl⟩))
          all_goals go_wp2_with fail
          all_goals go_meet
          all_goals
            have hb := below_drawnN ((Below.refl W4.heap.size W4).alloc (Nat.le_refl _) (.cells #[Value.string t, Value.string a, Value.int IntKind.i64 o, Value.int IntKind.i64 (e + 1), Value.int IntKind.i64 tk] 71)) 1
            exact ⟨W4.heap.size, rfl, HF4.out.quiet hb, (Whole.new rfl (by rw [HZ.out, ← HTK.out]; rfl)).drew, HF4.out.2.2.2.inside⟩
        case rest =>
          obtain ⟨n5, rfl, hT5, hW5, hn5⟩ := hcut
          have HF5 := Lib.hid (And.intro hT5 (And.intro hW5 hn5))
          have c4 : World.cell? wc ⟨w.heap.size, 4, none⟩ = some (.slice A L.length c) := by rw [hT5.2.1.at_]; rfl
          clear hT5 hW5 hn5 c3
          obtain ⟨sv, hsv⟩ : ∃ sv : Value, sv = (.slice A L.length c) := ⟨_, rfl⟩
          go_upto_region 16 with fail
          refine name_wp (fun W => Placing w W n tt l (e + 1) sv n5 z (.slice (some ⟨wc.heap.size, 0, none⟩) 0 0) []) ?_ ?_
          · have hb : Below wc.heap.size wc (wc.alloc (.cells #[] 71)) := (Below.refl _ _).alloc (Nat.le_refl _) _
            rw [hsv]
            exact ⟨Lows.empty (by have := HF5.out.2.1.inside; omega), HF5.out.1.quiet hb, HF5.out.2.1.alloc _, by have := HF5.out.2.1.inside; simp; omega, HF5.out.2.2⟩
          intro W6 hF6
          have HP0 := Lib.hid hF6
          have c4 : W6.cell? ⟨w.heap.size, 4, none⟩ = some (.slice A L.length c) := by rw [hF6.2.1.2.1.at_, hsv]; rfl
          clear hF6 hsv
          go_wp2_with fail
          clear c4
          go_loopg [17, 18, 97] L.length (fun gq s u i wr => ∃ q : Nat, gq + q = L.length ∧ i = .int .i64 q ∧ u = .bool ((L.take q).any fun y => ltL z y) ∧ Placing w wr n tt l (e + 1) sv n5 z s (accI z (L.take q)))
          case atStart => exact ⟨0, rfl, rfl, rfl, HP0.out⟩
          case round =>
            obtain ⟨q, hgq, rfl, hu, hpl⟩ := hrel
            have HA2 := Lib.hid (And.intro hpl hgq)
            obtain ⟨an, han⟩ : ∃ an, an = ((L.take q).any fun y => ltL z y) := ⟨_, rfl⟩
            rw [← han] at hu
            have HAN := Lib.hid han
            subst hu
            clear hpl han
            by_cases hlt : q < L.length
            · obtain ⟨y, hy⟩ : ∃ y, L[q]? = some y := ⟨L[q], List.getElem?_eq_getElem hlt⟩
              obtain ⟨gx, cx, hv, _, _, hcell⟩ := (H.out.rest HA2.out.1.2.1.1).at_ hy
              cases hv
              have f0 : World.cell? wr ⟨_, q * 5, none⟩ = some (.string y.t) := (hcell 0 _ rfl).1
              have f1 : World.cell? wr ⟨_, q * 5 + 1, none⟩ = some (.string y.a) := (hcell 1 _ rfl).1
              have f2 : World.cell? wr ⟨_, q * 5 + 2, none⟩ = some (.int .i64 y.o) := (hcell 2 _ rfl).1
              have f3 : World.cell? wr ⟨_, q * 5 + 3, none⟩ = some (.int .i64 y.e) := (hcell 3 _ rfl).1
              have f4 : World.cell? wr ⟨_, q * 5 + 4, none⟩ = some (.int .i64 y.l) := (hcell 4 _ rfl).1
              have HYQ := Lib.hid hy
              have hqi : (q : Int) < L.length := by omega
              have HZN := Lib.hid (show z.t = t ∧ z.a = a by rw [HZ.out]; exact ⟨rfl, rfl⟩)
              clear hy hcell hgq
              by_cases hsame : y.t = t ∧ y.a = a
              · have e1 : (y.t.toList == t.toList) = true := by rw [hsame.1]; simp
                have e2 : (y.a.toList == a.toList) = true := by rw [hsame.2]; simp
                have HE := Lib.hid (accI_same (x := z) HYQ.out (by rw [HZN.out.1]; exact hsame.1) (by rw [HZN.out.2]; exact hsame.2))
                clear hsame
                go_wp2_with fail
                go_roundg (L.length - (q + 1))
                case measure => have := HA2.out.2; omega
                case rel =>
                  have hbq : Below wr.heap.size wr _ := (Below.refl wr.heap.size wr).alloc (Nat.le_refl _) (.cells (lseC y).toArray 71)
                  exact ⟨q + 1, by have := HA2.out.2; omega, by go_num, by rw [HE.out.2, HAN.out], by rw [HE.out.1]; exact HA2.out.1.quiet hbq⟩
              · have hp := place_of z y (by rw [HZN.out.1, HZN.out.2]; exact hsame)
                rw [HZN.out.1, HZN.out.2] at hp
                have HPL := Lib.hid hp
                obtain ⟨b1, hb1⟩ : ∃ b1, b1 = (y.t.toList == t.toList) := ⟨_, rfl⟩
                obtain ⟨b2, hb2⟩ : ∃ b2, b2 = (y.a.toList == a.toList) := ⟨_, rfl⟩
                have hnz : (b1 && b2) = false := by
                  rw [hb1, hb2]
                  by_cases h1 : y.t = t
                  · by_cases h2 : y.a = a
                    · exact absurd ⟨h1, h2⟩ hsame
                    · rw [str_ne h2]; simp
                  · rw [str_ne h1]; simp
                clear hp hsame
                have e1 := hb1.symm
                have e2 := hb2.symm
                clear hb1 hb2
                go_upto_region 20 with fail
                obtain ⟨g6, hg6⟩ : ∃ g6, g6 = wr.heap.size := ⟨_, rfl⟩
                rw [← hg6]
                have HG6 := Lib.hid hg6
                refine name_wp (fun W => Below wr.heap.size wr W ∧ Whole W g6 71 (lseC y).toArray) ⟨(Below.refl _ _).alloc (Nat.le_refl _) _, Whole.new hg6.symm rfl⟩ ?_
                intro W6 hF6
                have HF6 := Lib.hid hF6
                have k0 : W6.cell? ⟨g6, 0, none⟩ = some (.string y.t) := by rw [hF6.2.at_]; rfl
                have k1 : W6.cell? ⟨g6, 1, none⟩ = some (.string y.a) := by rw [hF6.2.at_]; rfl
                clear hF6 f0 f1 f2 f3 f4 hg6
                go_cut [97, 110] (fun s97 s110 wx => s97 = .int .i64 (q : Int) ∧ s110 = .bool false ∧ W6 = wx)
                case first =>
                  cases b1 <;> cases b2
                  all_goals try (exfalso; exact absurd hnz (by decide))
                  all_goals
                    clear hnz
                    go_wp2_with fail
                    go_meet
                    exact ⟨rfl, rfl, rfl⟩
                case rest =>
                obtain ⟨rfl, rfl, rfl⟩ := hcut
                clear e1 e2 hnz
                obtain ⟨tst, htst⟩ : ∃ tst, tst = (!an && ltL z y) := ⟨_, rfl⟩
                have HTS := Lib.hid htst
                clear htst
                go_upto_region 21 with fail
                go_cut [97, 130] (fun s97 s130 wx => s97 = .int .i64 (q : Int) ∧ s130 = .bool tst ∧ W6 = wx)
                case first =>
                  cases an
                  · rcases HPL.out with ⟨hlt2, h1 | ⟨h1, h2, h3⟩⟩ | ⟨hlt2, h1, h2 | ⟨h2, h3⟩⟩
                    · have HTT := Lib.hid (show tst = true by rw [HTS.out, hlt2]; rfl)
                      clear hlt2
                      go_wp2_with fail
                      go_meet
                      exact ⟨rfl, by rw [HTT.out], rfl⟩
                    · have HTT := Lib.hid (show tst = true by rw [HTS.out, hlt2]; rfl)
                      clear hlt2
                      go_wp2_with fail
                      go_meet
                      exact ⟨rfl, by rw [HTT.out], rfl⟩
                    · have HTT := Lib.hid (show tst = false by rw [HTS.out, show ltL z y = false from ltN_asymm hlt2]; rfl)
                      clear hlt2
                      go_wp2_with fail
                      go_meet
                      exact ⟨rfl, by rw [HTT.out], rfl⟩
                    · have HTT := Lib.hid (show tst = false by rw [HTS.out, show ltL z y = false from ltN_asymm hlt2]; rfl)
                      clear hlt2
                      go_wp2_with fail
                      go_meet
                      exact ⟨rfl, by rw [HTT.out], rfl⟩
                  · have HTT := Lib.hid (show tst = false by rw [HTS.out]; rfl)
                    go_wp2_with fail
                    go_meet
                    exact ⟨rfl, by rw [HTT.out], rfl⟩
                case rest =>
                obtain ⟨rfl, rfl, rfl⟩ := hcut
                clear k0 k1
                go_upto_if 130 with fail
                go_cut [17, 18, 97] (fun s17 s18 s97 wx => ∃ M, s97 = .int .i64 (q : Int) ∧ s18 = .bool ((L.take (q + 1)).any fun y => ltL z y) ∧ accI z (L.take (q + 1)) = M ++ [y] ∧ Placing w wx n tt l (e + 1) sv n5 z s17 M ∧ Whole wx g6 71 (lseC y).toArray)
                case first =>
                  cases hts : tst
                  · have HN := Lib.hid (step_no HB.out.2.1 HYQ.out HAN.out (by rw [← HTS.out]; exact hts) (HPL.out.elim (fun h => .inl h.1) (fun h => .inr h.1)))
                    clear hts
                    go_wp2_with fail
                    go_meet
                    exact ⟨_, rfl, by rw [HN.out.1], HN.out.2, HA2.out.1.quiet HF6.out.1, HF6.out.2⟩
                  · have HN := Lib.hid (step_yes HYQ.out HAN.out (by rw [← HTS.out]; exact hts))
                    clear hts
                    have w5 := (HA2.out.1.quiet HF6.out.1).2.2.1
                    have g0 : W6.cell? ⟨n5, 0, none⟩ = some (.string z.t) := by rw [w5.at_]; rfl
                    have g1 : W6.cell? ⟨n5, 1, none⟩ = some (.string z.a) := by rw [w5.at_]; rfl
                    have g2 : W6.cell? ⟨n5, 2, none⟩ = some (.int .i64 z.o) := by rw [w5.at_]; rfl
                    have g3 : W6.cell? ⟨n5, 3, none⟩ = some (.int .i64 z.e) := by rw [w5.at_]; rfl
                    have g4 : W6.cell? ⟨n5, 4, none⟩ = some (.int .i64 z.l) := by rw [w5.at_]; rfl
                    clear w5
                    go_wp2_with (first
                      | (at_builtin; refine wpList_pushL rfl _ _ 42 rfl (n5 + 1) 71 (lseV lse0) 56 Tryd.underlying42 rlseInfo rfl (by omega) _ (accI z (L.take q)) z rfl (((HA2.out.1.quiet HF6.out.1).1).kept (World.grownBy_alloc _ _ none) (own_or _)) W6.heap.size 1 rfl ?c3 ?c4 ?c5 ?_)
                      | fail)
                    case c3 => exact Whole.new rfl rfl
                    case c4 => have h1 := accI_length z (L.take q); rw [List.length_take] at h1; have := HB.out.2.2.1; omega
                    case c5 => have := (HA2.out.1.quiet HF6.out.1).2.2.2.1; simp; omega
                    intro v' W7 h7 hg7 hloc
                    have HP7 := Lib.hid (show Placing w W7 n tt l (e + 1) sv n5 z v' (accI z (L.take q) ++ [z]) ∧ Whole W7 g6 71 (lseC y).toArray from
                      ⟨((HA2.out.1.quiet HF6.out.1).quiet ((Below.refl _ _).alloc (Nat.le_refl _) (.cells (lseC z).toArray 71))).push h7 hg7, (HF6.out.2.alloc _).only hg7 (fun e => by have := (HA2.out.1.1.lt _ e.symm).2; have := HG6.out; omega)⟩)
                    clear h7 hg7 hloc g0 g1 g2 g3 g4
                    go_wp2_with fail
                    go_meet
                    exact ⟨_, rfl, by rw [HN.out.1], HN.out.2, HP7.out⟩
                case rest =>
                obtain ⟨M, rfl, rfl, hM, hpl, hwy⟩ := hcut
                have HM := Lib.hid (And.intro hM (And.intro hpl hwy))
                have g0 : World.cell? wc ⟨g6, 0, none⟩ = some (.string y.t) := by rw [hwy.at_]; rfl
                have g1 : World.cell? wc ⟨g6, 1, none⟩ = some (.string y.a) := by rw [hwy.at_]; rfl
                have g2 : World.cell? wc ⟨g6, 2, none⟩ = some (.int .i64 y.o) := by rw [hwy.at_]; rfl
                have g3 : World.cell? wc ⟨g6, 3, none⟩ = some (.int .i64 y.e) := by rw [hwy.at_]; rfl
                have g4 : World.cell? wc ⟨g6, 4, none⟩ = some (.int .i64 y.l) := by rw [hwy.at_]; rfl
                clear hM hpl hwy
                go_wp2_with (first
                  | (at_builtin; refine wpList_pushL rfl _ _ 42 rfl (n5 + 1) 71 (lseV lse0) 56 Tryd.underlying42 rlseInfo rfl (by omega) _ M y rfl (HM.out.2.1.1.kept (World.grownBy_alloc _ _ none) (own_or _)) (World.heap wc).size 1 rfl ?c3 ?c4 ?c5 ?_)
                  | fail)
                case c3 => exact Whole.new rfl rfl
                case c4 => have h1 := accI_length z (L.take (q + 1)); rw [HM.out.1, List.length_append, List.length_take] at h1; have := HB.out.2.2.1; omega
                case c5 => have := HM.out.2.1.2.2.2.1; simp; omega
                intro v' W7 h7 hg7 hloc
                have HP7 := Lib.hid (show Placing w W7 n tt l (e + 1) sv n5 z v' (accI z (L.take (q + 1))) by
                  rw [HM.out.1]
                  exact (HM.out.2.1.quiet ((Below.refl _ _).alloc (Nat.le_refl _) (.cells (lseC y).toArray 71))).push h7 hg7)
                clear h7 hg7 hloc g0 g1 g2 g3 g4
                go_wp2_with fail
                go_roundg (L.length - (q + 1))
                case measure => have := HA2.out.2; omega
                case rel => exact ⟨q + 1, by have := HA2.out.2; omega, by go_num, rfl, HP7.out⟩
            · have hql : q = L.length := by omega
              subst hql
              have HE := Lib.hid (show Placing w wr n tt l (e + 1) sv n5 z _ (accI z L) ∧ an = (L.any fun y => ltL z y) from ⟨by have := HA2.out.1; rwa [List.take_length] at this, by have := HAN.out; rwa [List.take_length] at this⟩)
              clear hgq
              go_upto_if 141 with fail
              go_cut [17, 18] (fun s17 s18 wx => Placing w wx n tt l (e + 1) sv n5 z s17 (insL z L))
              case first =>
                cases han : an
                · have HN := Lib.hid (accI_end (x := z) (L := L) (by rw [← HE.out.2]; exact han))
                  clear han
                  have w5 := HE.out.1.2.2.1
                  have g0 : wr.cell? ⟨n5, 0, none⟩ = some (.string z.t) := by rw [w5.at_]; rfl
                  have g1 : wr.cell? ⟨n5, 1, none⟩ = some (.string z.a) := by rw [w5.at_]; rfl
                  have g2 : wr.cell? ⟨n5, 2, none⟩ = some (.int .i64 z.o) := by rw [w5.at_]; rfl
                  have g3 : wr.cell? ⟨n5, 3, none⟩ = some (.int .i64 z.e) := by rw [w5.at_]; rfl
                  have g4 : wr.cell? ⟨n5, 4, none⟩ = some (.int .i64 z.l) := by rw [w5.at_]; rfl
                  clear w5
                  go_wp2_with (first
                    | (at_builtin; refine wpList_pushL rfl _ _ 42 rfl (n5 + 1) 71 (lseV lse0) 56 Tryd.underlying42 rlseInfo rfl (by omega) _ (accI z L) z rfl (HE.out.1.1.kept (World.grownBy_alloc _ _ none) (own_or _)) wr.heap.size 1 rfl ?c3 ?c4 ?c5 ?_)
                    | fail)
                  case c3 => exact Whole.new rfl rfl
                  case c4 => have h1 := accI_length z L; have := HB.out.2.2.1; omega
                  case c5 => have := HE.out.1.2.2.2.1; simp; omega
                  intro v' W7 h7 hg7 hloc
                  have HP7 := Lib.hid (show Placing w W7 n tt l (e + 1) sv n5 z v' (insL z L) by
                    rw [← HN.out]
                    exact (HE.out.1.quiet ((Below.refl _ _).alloc (Nat.le_refl _) (.cells (lseC z).toArray 71))).push h7 hg7)
                  clear h7 hg7 hloc g0 g1 g2 g3 g4
                  go_wp2_with fail
                  go_meet
                  exact HP7.out
                · have HN := Lib.hid (accI_done (x := z) (L := L) (by rw [← HE.out.2]; exact han))
                  clear han
                  go_wp2_with fail
                  go_meet
                  rw [← HN.out]
                  exact HE.out.1
              case rest =>
              obtain ⟨As, cs, hs⟩ := hcut.1.lens
              subst hs
              have HC := Lib.hid hcut
              clear hcut
              obtain ⟨N, hN⟩ : ∃ N, (insL z L).length = N := ⟨_, rfl⟩
              rw [hN] at HC ⊢
              have HN := Lib.hid hN
              have d4 : World.frozen? wc ⟨w.heap.size, 4, none⟩ = false := HC.out.2.1.2.1.free 4
              have c4 : World.cell? wc ⟨w.heap.size, 4, none⟩ = some sv := by rw [HC.out.2.1.2.1.at_]; rfl
              clear hN
              go_upto_region 29 with fail
              refine name_wp (fun W => Taking w W n tt l (e + 1) (.slice As N cs) ∧ Lows W (n5 + 1) 71 (.slice As N cs) (insL z L) ∧ Whole W n5 71 (lseC z).toArray) ?_ ?_
              · have hs1 := only_stored (w := wc) (g := w.heap.size) ⟨w.heap.size, 4, none⟩ rfl (.slice As N cs)
                obtain ⟨q1, ⟨r1, r2, r3, r4⟩, q3, q4, q5⟩ := HC.out
                exact ⟨⟨r1.grown hs1 r1.size (fun k hk => by injection hk with hk; omega), r2.stored 4 _, r3.only hs1 (ne_some (by omega)), r4.only hs1 (ne_some (by omega))⟩, q1.kept hs1 (.inr (fun h => by have := (q1.lt _ h).1; omega)), q3.only hs1 (ne_some (by omega))⟩
              intro W8 hF8
              have HF8 := Lib.hid hF8
              have c0 : W8.cell? ⟨w.heap.size, 0, none⟩ = some (.int .i64 n) := by rw [hF8.1.2.1.at_]; rfl
              have c1 : W8.cell? ⟨w.heap.size, 1, none⟩ = some (.int .i64 tt) := by rw [hF8.1.2.1.at_]; rfl
              have c2 : W8.cell? ⟨w.heap.size, 2, none⟩ = some (.int .i64 l) := by rw [hF8.1.2.1.at_]; rfl
              have c3 : W8.cell? ⟨w.heap.size, 3, none⟩ = some (.int .i64 (e + 1)) := by rw [hF8.1.2.1.at_]; rfl
              have c4 : W8.cell? ⟨w.heap.size, 4, none⟩ = some (.slice As N cs) := by rw [hF8.1.2.1.at_]; rfl
              have k3 := hF8.2.2
              have g0 : W8.cell? ⟨n5, 0, none⟩ = some (.string z.t) := by rw [k3.at_]; rfl
              have g1 : W8.cell? ⟨n5, 1, none⟩ = some (.string z.a) := by rw [k3.at_]; rfl
              have g2 : W8.cell? ⟨n5, 2, none⟩ = some (.int .i64 z.o) := by rw [k3.at_]; rfl
              have g3 : W8.cell? ⟨n5, 3, none⟩ = some (.int .i64 z.e) := by rw [k3.at_]; rfl
              have g4 : W8.cell? ⟨n5, 4, none⟩ = some (.int .i64 z.l) := by rw [k3.at_]; rfl
              have k1 := hF8.1.2.2.1
              have b0 := k1.at_ 0; have b1 := k1.at_ 1; have b2 := k1.at_ 2; have b3 := k1.at_ 3; have b4 := k1.at_ 4
              have f0 := k1.free 0; have f1 := k1.free 1; have f2 := k1.free 2; have f3 := k1.free 3; have f4 := k1.free 4
              have k2 := hF8.1.2.2.2
              have j0 := k2.at_ 0; have j1 := k2.at_ 1; have j2 := k2.at_ 2; have j3 := k2.at_ 3; have j4 := k2.at_ 4
              have q0 := k2.free 0; have q1 := k2.free 1; have q2 := k2.free 2; have q3 := k2.free 3; have q4 := k2.free 4
              simp only [refC, lseC, lse0, List.getElem?_toArray, List.getElem?_cons_zero, List.getElem?_cons_succ] at b0 b1 b2 b3 b4 j0 j1 j2 j3 j4
              have hne := HC.out.2.2.2.2
              clear k1 k2 k3 hF8 d4
              have hn3 : ¬ w.heap.size + 1 = w.heap.size + 1 + 1 := by omega
              have hn5 : ¬ w.heap.size + 1 + 1 = w.heap.size + 1 := by omega
              have hn1 : ¬ n5 = w.heap.size + 1 := by omega
              have hn2 : ¬ n5 = w.heap.size + 1 + 1 := by omega
              have hn7 : ¬ w.heap.size = w.heap.size + 1 := by omega
              have hn8 : ¬ w.heap.size = w.heap.size + 1 + 1 := by omega
              clear c0 c1 c2 c3 c4 g0 g1 g2 g3 g4 b0 b1 b2 b3 b4 f0 f1 f2 f3 f4 j0 j1 j2 j3 j4 q0 q1 q2 q3 q4
              have r1 := row_is (m := 5) HF8.out.1.2.1 rfl
              have r2 := row_is (m := 5) HF8.out.2.2 rfl
              have l1 := lies_of (m := 5) HF8.out.1.2.1 rfl
              have l2 := lies_of (m := 5) HF8.out.2.2 rfl
              have l3 := lies_of (m := 5) HF8.out.1.2.2.1 rfl
              have l4 : Lies W8 (.pointer (some ⟨w.heap.size + 1 + 1, 0, none⟩)) 5 := lies_of (m := 5) HF8.out.1.2.2.2 rfl
              have o1 := rowOf_T n tt l (e + 1) (.slice As N cs) rfl
              have o2 := rowOf_L z
              unfold refV at o1
              unfold lseV at o2
              simp only [refC, lseC] at r1 r2
              obtain ⟨F1, hF1⟩ : ∃ F1, F1 = (W8.drew.setCells (w.heap.size + 1) 0 [Value.int IntKind.i64 n, Value.int IntKind.i64 tt, Value.int IntKind.i64 l, Value.int IntKind.i64 (e + 1), Value.slice As N cs]).setCells (w.heap.size + 1 + 1) 0 [Value.string z.t, Value.string z.a, Value.int IntKind.i64 z.o, Value.int IntKind.i64 z.e, Value.int IntKind.i64 z.l] := ⟨_, rfl⟩
              obtain ⟨F2, hF2⟩ : ∃ F2, F2 = (W8.drew.setCells (w.heap.size + 1 + 1) 0 [Value.string z.t, Value.string z.a, Value.int IntKind.i64 z.o, Value.int IntKind.i64 z.e, Value.int IntKind.i64 z.l]).setCells (w.heap.size + 1) 0 [Value.int IntKind.i64 n, Value.int IntKind.i64 tt, Value.int IntKind.i64 l, Value.int IntKind.i64 (e + 1), Value.slice As N cs] := ⟨_, rfl⟩
              have HF1 := Lib.hid hF1
              have HF2 := Lib.hid hF2
              have hE1 : Whole F1 (w.heap.size + 1) 44 (refC n tt l (e + 1) (.slice As N cs)) ∧ Whole F1 (w.heap.size + 1 + 1) 71 (lseC z).toArray ∧ Below w.heap.size w F1 ∧ Lows F1 w.heap.size 71 (.slice As N cs) (insL z L) := by
                have h := two_rows (W := W8.drew) (p := w.heap.size + 1) (q := w.heap.size + 1 + 1) (by omega) HF8.out.1.2.2.1.drew HF8.out.1.2.2.2.drew (refC n tt l (e + 1) (.slice As N cs)) (lseC z).toArray rfl rfl
                have hh : F1 = (W8.drew.setCells (w.heap.size + 1) 0 (refC n tt l (e + 1) (.slice As N cs)).toList).setCells (w.heap.size + 1 + 1) 0 (lseC z).toArray.toList := hF1
                rw [← hh] at h
                obtain ⟨a1, a2, W9, a3, a4⟩ := h
                have hen := HF8.out.1.ended HF8.out.2.1 (by omega) (by omega) (by omega) a3 a4 a3.size
                exact ⟨a1, a2, hen.1, hen.2⟩
              have hE2 : Whole F2 (w.heap.size + 1) 44 (refC n tt l (e + 1) (.slice As N cs)) ∧ Whole F2 (w.heap.size + 1 + 1) 71 (lseC z).toArray ∧ Below w.heap.size w F2 ∧ Lows F2 w.heap.size 71 (.slice As N cs) (insL z L) := by
                have h := two_rows (W := W8.drew) (p := w.heap.size + 1 + 1) (q := w.heap.size + 1) (by omega) HF8.out.1.2.2.2.drew HF8.out.1.2.2.1.drew (lseC z).toArray (refC n tt l (e + 1) (.slice As N cs)) rfl rfl
                have hh : F2 = (W8.drew.setCells (w.heap.size + 1 + 1) 0 (lseC z).toArray.toList).setCells (w.heap.size + 1) 0 (refC n tt l (e + 1) (.slice As N cs)).toList := hF2
                rw [← hh] at h
                obtain ⟨a1, a2, W9, a3, a4⟩ := h
                have hen := HF8.out.1.ended HF8.out.2.1 (by omega) (by omega) (by omega) a3 a4 a3.size
                exact ⟨a2, a1, hen.1, hen.2⟩
              have HE1 := Lib.hid hE1
              have HE2 := Lib.hid hE2
              clear hE1 hE2 hF1 hF2
              go_region_with (fail)
              all_goals clear r1 r2 l1 l2 l3 l4 o1 o2 hn1 hn2 hn3 hn5 hn7 hn8
              all_goals go_simp
              all_goals (refine ‹∀ (a : Go.Act) (w_1 : World), Code.wp Tryd.prog Code.ret _ a w_1 → _› _ _ (wp_ret ?_))
              all_goals
                have hr : r = ⟨insL z L, e + 1, z, (-1), 0⟩ := by rw [HRES.out, HZ.out]; rfl
                first
                  | (rw [← HF1.out]
                     have hE := HE1.out)
                  | (rw [← HF2.out]
                     have hE := HE2.out)
                obtain ⟨hH1, hH2, hb9, hl9⟩ := hE
                have hP : ∀ F, Below w.heap.size w F → Lows F w.heap.size 71 (.slice As N cs) (insL z L) → RTakeP B n tt l w r (.returned (.tuple #[refV n tt l (e + 1) (.slice As N cs), lseV z, .int .i64 (-1), .int .i64 0])) F := by
                  intro F k1 k2
                  rw [hr]
                  exact ⟨⟨_, rfl, k2.less HB.out.2.2.2⟩, k1⟩
                exact bodyPost_ret_by (results_row2_tmp2 (p := 10) (p2 := 11) (u := 12) (v := 13) rfl _ _ (w.heap.size + 1) (w.heap.size + 1 + 1) 44 71 (refC n tt l (e + 1) (.slice As N cs)) (lseC z).toArray _ _ rfl hH1 Tryd.underlying44 rfl (by kernel_rfl) rfl hH2 Tryd.underlying71 rfl (by kernel_rfl)) rfl (hP _ hb9 hl9)

end Go.Proofs.YtlkgdnmfgcmldaaDoor
