/- The table's Take. -/
import Derived.Test.YtlkgdnmfgcmldaaDoorLea9
import Derived.Test.YtlkgdnmfgcmldaaDoorLea7
import Derived.Test.YtlkgdnmfgcmldaaDoorLea10
import Derived.Deep.RegionHeld3
import Derived.Deep.RegionWith
namespace Go.Proofs.YtlkgdnmfgcmldaaDoor
open Go.RowKit Go.Spk
set_option linter.unusedVariables false
def errV (E : Nat → Addr) (c : Nat) : Value := if c = 0 then .nilIface else errI (E (c - 1))
/-- What a call on the table leaves: all old blocks but the table's two are as they were. -/
structure Kept2 (w w' : World) (g b : Nat) : Prop where
  os : w'.os = w.os
  tape : w'.tape = w.tape
  output : w'.output = w.output
  size : w.heap.size ≤ w'.heap.size
  block : ∀ i, i < w.heap.size → i ≠ g → i ≠ b → w'.heap[i]? = w.heap[i]?
theorem Kept2.of_below {w w' : World} (h : Below w.heap.size w w') (g b : Nat) : Kept2 w w' g b := ⟨h.os, h.tape, h.output, h.size, fun i hi _ _ => h.block i hi⟩
theorem Kept2.of_only {w w' : World} {b : Nat} (h : w.grownBy w' (some b)) (g : Nat) : Kept2 w w' g b := ⟨h.os, h.tape, h.output, h.size, fun i hi _ hb => h.block i hi (fun e => hb (by injection e))⟩
theorem Kept2.trans {w w' w'' : World} {g b : Nat} (h : Kept2 w w' g b) (k : Kept2 w' w'' g b) : Kept2 w w'' g b :=
  ⟨k.os.trans h.os, k.tape.trans h.tape, k.output.trans h.output, Nat.le_trans h.size k.size, fun i hi h1 h2 => (k.block i (Nat.lt_of_lt_of_le hi h.size) h1 h2).trans (h.block i hi h1 h2)⟩
theorem Kept2.later {w w' w'' : World} {g b n : Nat} (h : Kept2 w w' g b) (k : w'.grownBy w'' (some n)) (hn : w.heap.size ≤ n) : Kept2 w w'' g b :=
  ⟨k.os.trans h.os, k.tape.trans h.tape, k.output.trans h.output, Nat.le_trans h.size k.size, fun i hi h1 h2 => (k.block i (Nat.lt_of_lt_of_le hi h.size) (fun e => by injection e with e; omega)).trans (h.block i hi h1 h2)⟩
abbrev set5 (W : World) (n : Nat) (x : Lse) : World := ((((W.setCell ⟨n, 0, none⟩ (.string x.t)).setCell ⟨n, 1, none⟩ (.string x.a)).setCell ⟨n, 2, none⟩ (.int .i64 x.o)).setCell ⟨n, 3, none⟩ (.int .i64 x.e)).setCell ⟨n, 4, none⟩ (.int .i64 x.l)
/-- The world with the five cells of x in block n. -/
theorem stored5 {W : World} {n : Nat} {T : TypeId} {y : Lse} (h : Whole W n T (lseC y).toArray) (x : Lse) : Whole (set5 W n x) n T (lseC x).toArray :=
  ((((h.stored 0 (.string x.t)).stored 1 (.string x.a)).stored 2 (.int .i64 x.o)).stored 3 (.int .i64 x.e)).stored 4 (.int .i64 x.l)
theorem only5 (W : World) (n : Nat) (x : Lse) : W.grownBy (set5 W n x) (some n) :=
  only_trans (only_trans (only_trans (only_trans (only_stored ⟨n, 0, none⟩ rfl _) (only_stored ⟨n, 1, none⟩ rfl _)) (only_stored ⟨n, 2, none⟩ rfl _)) (only_stored ⟨n, 3, none⟩ rfl _)) (only_stored ⟨n, 4, none⟩ rfl _)
theorem below5 {B : Nat} {w W : World} (h : Below B w W) {n : Nat} (hB : B ≤ W.heap.size) (hn : B ≤ n) (x : Lse) : Below B w (set5 W n x) := h.grown (only5 W n x) hB (fun k hk => by injection hk with hk; omega)
/-- Three results, the first of them a lease laid in memory. -/
theorem results_row_tmp2 {P : Program} {fn : Func} {p u v : Tmp} {ty : TypeId} (h : fn.results = #[.cell p ty, .tmp u, .tmp v]) (tmps : Array Value) (w : World) (g : Nat) (t : TypeId) (cs : Array Value) (fr : Nat × Nat) (d : TypeDesc)
    (hp : tmps.getD p undef = .pointer (some ⟨g, 0, none⟩)) (hg : w.heap[g]? = some (.cells cs t fr))
    (hu : P.underlying ty = some d) (hd : (match d with | .struct _ | .array _ _ => true | _ => false) = true) (hi : (P.info? ty).map (·.size) = some cs.size) :
    (results fn tmps).run P w = .ok (.tuple #[.agg cs, tmps.getD u undef, tmps.getD v undef]) w := by
  have hp' : tmps[p]?.getD undef = .pointer (some ⟨g, 0, none⟩) := by simpa using hp
  simp [results, h, hp', asAddr, run_loadVar_row w g t ty cs fr d hg hu hd hi, Result.andThen]
/-- Find, whatever comes of it. -/
theorem find_any (g b : Nat) (n tt l e : Int) (L : List Lse) (t a : ByteArray) (ht : t.size ≤ maxLen) (ha : a.size ≤ maxLen) (E : Addr) (w : World) (hT : Whole w g 60 (tabC n tt l b e)) (hM : TabAt w b L)
    (hE : w.cell? ⟨4, 0, none⟩ = some (errI E)) :
    Calls Tryd.prog 11 #[.pointer (some ⟨g, 0, none⟩), .string t, .string a] w fun e w' => e = .returned (.tuple #[match lookL L t a with | some x => lseV x | none => lseV lse0, match lookL L t a with | some _ => .nilIface | none => errI E]) ∧ Below w.heap.size w w' := by
  rcases find_calls g b n tt l e L t a ht ha E w hT hM hE with ⟨x, hx, h1, h2, hc⟩ | ⟨hno, hc⟩
  · cases hq : lookL L t a with
    | none => exact absurd ⟨h1, h2⟩ (lookL_none hq x hx)
    | some y =>
      obtain ⟨hy, k1, k2⟩ := lookL_some hq
      have : x = y := by
        have hn := hM.nd
        obtain ⟨i, hi, rfl⟩ := List.mem_iff_getElem.1 hx
        obtain ⟨j, hj, rfl⟩ := List.mem_iff_getElem.1 hy
        have hp := List.pairwise_iff_getElem.1 hn
        rcases Nat.lt_trichotomy i j with hij | rfl | hij
        · exact absurd ⟨h1.trans k1.symm, h2.trans k2.symm⟩ (hp i j hi hj hij)
        · rfl
        · exact absurd ⟨k1.trans h1.symm, k2.trans h2.symm⟩ (hp j i hj hi hij)
      subst this
      exact hc
  · cases hq : lookL L t a with
    | some y =>
      obtain ⟨hy, k1, k2⟩ := lookL_some hq
      exact absurd ⟨k1, k2⟩ (hno y hy)
    | none => exact hc
/-- What a call of Take comes to. -/
structure TakeR where
  L : List Lse
  ep : Int
  x : Lse
  was : Int
  code : Nat
def newM (L : List Lse) (ep : Int) (t a : ByteArray) (o now was : Int) : TakeR := ⟨insL ⟨t, a, o, ep + 1, tickI now⟩ L, ep + 1, ⟨t, a, o, ep + 1, tickI now⟩, was, 0⟩
def takeM (nm tot ep : Int) (L : List Lse) (t a : ByteArray) (o now : Int) : TakeR :=
  if (validB t && validB a) = true then
    match lookL L t a with
    | some y => if y.o = o then ⟨L, ep, lse0, -1, 9⟩ else newM L ep t a o now y.o
    | none => if nm ≤ (cntL L t : Int) then ⟨L, ep, lse0, -1, 16⟩ else if tot ≤ (L.length : Int) then ⟨L, ep, lse0, -1, 7⟩ else newM L ep t a o now (-1)
  else ⟨L, ep, lse0, -1, 17⟩
structure TakeP (E : Nat → Addr) (g b : Nat) (n tt l : Int) (w : World) (r : TakeR) (e : Ending) (w' : World) : Prop where
  ret : e = .returned (.tuple #[lseV r.x, .int .i64 r.was, errV E r.code])
  row : Whole w' g 60 (tabC n tt l b r.ep)
  tab : TabAt w' b r.L
  kept : Kept2 w w' g b
set_option maxRecDepth 100000 in
set_option maxHeartbeats 4000000 in
theorem take_calls (g b : Nat) (n tt l e : Int) (he : 0 ≤ e ∧ e ≤ 1000000) (L : List Lse) (hL : L.length ≤ 100000) (t a : ByteArray) (o now : Int) (ht : t.size ≤ maxLen) (ha : a.size ≤ maxLen) (E : Nat → Addr) (w : World) (hT : Whole w g 60 (tabC n tt l b e)) (hM : TabAt w b L) (hE : Errs w E)
    (hgb : g ≠ b) :
    Calls Tryd.prog 9 #[.pointer (some ⟨g, 0, none⟩), .string t, .string a, .int .i64 o, .int .i64 now] w (TakeP E g b n tt l w (takeM n tt e L t a o now)) := by
  have HF := Lib.hid (show Whole w g 60 (tabC n tt l b e) ∧ TabAt w b L ∧ Errs w E from ⟨hT, hM, hE⟩)
  have HS := Lib.hid (And.intro ht ha)
  have HB := Lib.hid (show (0 ≤ e ∧ e ≤ 1000000) ∧ L.length ≤ 100000 ∧ g ≠ b from ⟨he, hL, hgb⟩)
  clear hT hM hE ht ha he hL hgb
  obtain ⟨r, hr⟩ : ∃ r, r = takeM n tt e L t a o now := ⟨_, rfl⟩
  have HR := Lib.hid hr
  rw [← hr]
  clear hr
  obtain ⟨x, hx⟩ : ∃ x : Lse, x = (match lookL L t a with | some x => x | none => lse0) := ⟨_, rfl⟩
  obtain ⟨er, her⟩ : ∃ er : Value, er = (match lookL L t a with | some _ => .nilIface | none => errI (E 7)) := ⟨_, rfl⟩
  have HX := Lib.hid (And.intro hx her)
  clear hx her
  go_enter Tryd.func9, Tryd.ntmps9
  go_wp2_with fail
  generalize hW : World.alloc _ _ = W0
  have H0 := Lib.hid (show Below w.heap.size w W0 ∧ Whole W0 w.heap.size 29 (lseC lse0).toArray ∧ w.heap.size + 1 = W0.heap.size by subst hW; exact ⟨by go_grown, Whole.new rfl rfl, by simp⟩)
  clear hW
  have hfind := find_any g b n tt l e L t a HS.out.1 HS.out.2 (E 7) W0 (HF.out.1.below H0.out.1 HF.out.1.inside) (HF.out.2.1.kept (only_of_below H0.out.1 none) (by simp)) ((HF.out.2.2.below H0.out.1).var 7 (by decide))
  rw [← HX.out.2, show (match lookL L t a with | some x => lseV x | none => lseV lse0) = lseV x by rw [HX.out.1]; cases lookL L t a <;> rfl] at hfind
  refine hfind.mono ?_
  clear hfind
  rintro e W1 ⟨rfl, hb1⟩
  have H1 := Lib.hid hb1
  clear hb1
  unfold lseV
  go_wp2_with fail
  obtain ⟨n1, hn1⟩ : ∃ n1, n1 = W1.heap.size := ⟨_, rfl⟩
  generalize hW : World.alloc _ _ = W2
  have HF2 := Lib.hid (show Below w.heap.size w W2 ∧ Whole W2 w.heap.size 29 (lseC lse0).toArray ∧ Whole W2 W1.heap.size 29 (lseC x).toArray ∧ Errs W2 E ∧ w.heap.size < W1.heap.size ∧ W1.heap.size < W2.heap.size by
    subst hW
    have hb := H0.out.1.trans (H1.out.mono (by have := H0.out.2.2; omega))
    have hw := (H0.out.2.1.below H1.out (by have := H0.out.2.2; omega))
    have hb2 := hb.alloc hb.size (.cells #[Value.string x.t, Value.string x.a, Value.int IntKind.i64 x.o, Value.int IntKind.i64 x.e, Value.int IntKind.i64 x.l] 29)
    exact ⟨hb2, hw.alloc _, Whole.new rfl rfl, HF.out.2.2.below hb2, hw.inside, by simp⟩)
  clear hW hn1 n1
  have herr : ∀ (W : World) (k : Nat) (hk : k < 20), Below w.heap.size w W → Whole W w.heap.size 29 (lseC lse0).toArray → W.cell? ⟨errG k, 0, none⟩ = some (errI (E k)) ∧ errG k < w.heap.size := fun W k hk h _ => ⟨(HF.out.2.2.below h).var k hk, block_lt_of_cell (HF.out.2.2.var k hk)⟩
  have HER := Lib.hid herr
  clear herr
  cases hv1 : validB t
  · have HRES := Lib.hid (show r = ⟨L, e, lse0, -1, 17⟩ by rw [HR.out]; unfold takeM; rw [hv1]; rfl)
    have hc := fun W => valid_calls t HS.out.1 W
    rw [hv1] at hc
    have HC := Lib.hid hc
    clear hc
    refine (HC.out _).mono ?_
    rintro e w' ⟨rfl, rfl⟩
    clear HC
    clear hv1
    go_wp2_with fail
    obtain ⟨k1, k2⟩ := HF2.out
    have k2 := k2.1
    obtain ⟨k3, hlt⟩ := HER.out _ 16 (by decide) k1 k2
    have c0 := k2.at_ 0; have c1 := k2.at_ 1; have c2 := k2.at_ 2; have c3 := k2.at_ 3; have c4 := k2.at_ 4
    have f0 := k2.free 0; have f1 := k2.free 1; have f2 := k2.free 2; have f3 := k2.free 3; have f4 := k2.free 4
    simp only [lseC, lse0, List.getElem?_toArray, List.getElem?_cons_zero, List.getElem?_cons_succ] at c0 c1 c2 c3 c4
    have hlt : 0 < w.heap.size := hlt
    have hne : ¬ w.heap.size = 0 := by omega
    have hne' : ¬ 0 = w.heap.size := by omega
    change World.cell? _ ⟨0, 0, none⟩ = _ at k3
    clear k1 k2 hlt
    unfold errI at k3
    go_region
    go_wp2_with fail
    have hb5 : Below w.heap.size w (set5 _ w.heap.size lse0) := below5 HF2.out.1 HF2.out.1.size (Nat.le_refl _) lse0
    refine bodyPost_ret_by (results_row_tmp2 (p := 10) (u := 11) (v := 12) rfl _ _ w.heap.size 29 (lseV lse0).cells (0, 0) _ rfl (Whole.drew (stored5 HF2.out.2.1 lse0)) Tryd.underlying29 rfl (by kernel_rfl)) rfl ?_
    rw [HRES.out]
    exact ⟨rfl, (HF.out.1.below hb5 HF.out.1.inside).drew, (HF.out.2.1.kept (only_of_below (below_drawnN hb5 1) none) (by simp)), Kept2.of_below (below_drawnN hb5 1) g b⟩
  have HV1 := Lib.hid hv1
  have hc := fun W => valid_calls t HS.out.1 W
  rw [hv1] at hc
  have HC := Lib.hid hc
  clear hc
  refine (HC.out _).mono ?_
  rintro e w' ⟨rfl, rfl⟩
  clear HC
  clear hv1
  go_wp2_with fail
  cases hv2 : validB a
  · have HRES := Lib.hid (show r = ⟨L, e, lse0, -1, 17⟩ by rw [HR.out]; unfold takeM; rw [HV1.out, hv2]; rfl)
    have hc := fun W => valid_calls a HS.out.2 W
    rw [hv2] at hc
    have HC := Lib.hid hc
    clear hc
    refine (HC.out _).mono ?_
    rintro e w' ⟨rfl, rfl⟩
    clear HC
    clear hv2
    go_wp2_with fail
    obtain ⟨k1, k2⟩ := HF2.out
    have k2 := k2.1
    obtain ⟨k3, hlt⟩ := HER.out _ 16 (by decide) k1 k2
    have c0 := k2.at_ 0; have c1 := k2.at_ 1; have c2 := k2.at_ 2; have c3 := k2.at_ 3; have c4 := k2.at_ 4
    have f0 := k2.free 0; have f1 := k2.free 1; have f2 := k2.free 2; have f3 := k2.free 3; have f4 := k2.free 4
    simp only [lseC, lse0, List.getElem?_toArray, List.getElem?_cons_zero, List.getElem?_cons_succ] at c0 c1 c2 c3 c4
    have hlt : 0 < w.heap.size := hlt
    have hne : ¬ w.heap.size = 0 := by omega
    have hne' : ¬ 0 = w.heap.size := by omega
    change World.cell? _ ⟨0, 0, none⟩ = _ at k3
    clear k1 k2 hlt
    unfold errI at k3
    go_region
    go_wp2_with fail
    have hb5 : Below w.heap.size w (set5 _ w.heap.size lse0) := below5 HF2.out.1 HF2.out.1.size (Nat.le_refl _) lse0
    refine bodyPost_ret_by (results_row_tmp2 (p := 10) (u := 11) (v := 12) rfl _ _ w.heap.size 29 (lseV lse0).cells (0, 0) _ rfl (Whole.drew (stored5 HF2.out.2.1 lse0)) Tryd.underlying29 rfl (by kernel_rfl)) rfl ?_
    rw [HRES.out]
    exact ⟨rfl, (HF.out.1.below hb5 HF.out.1.inside).drew, (HF.out.2.1.kept (only_of_below (below_drawnN hb5 1) none) (by simp)), Kept2.of_below (below_drawnN hb5 1) g b⟩
  have HV2 := Lib.hid hv2
  have hc := fun W => valid_calls a HS.out.2 W
  rw [hv2] at hc
  have HC := Lib.hid hc
  clear hc
  refine (HC.out _).mono ?_
  rintro e w' ⟨rfl, rfl⟩
  clear HC
  clear hv2
  have HR2 := Lib.hid (show r = (match lookL L t a with
    | some y => if y.o = o then ⟨L, e, lse0, -1, 9⟩ else newM L e t a o now y.o
    | none => if n ≤ (cntL L t : Int) then ⟨L, e, lse0, -1, 16⟩ else if tt ≤ (L.length : Int) then ⟨L, e, lse0, -1, 7⟩ else newM L e t a o now (-1)) by
    rw [HR.out]; unfold takeM; rw [HV1.out, HV2.out]; rfl)
  cases hq : lookL L t a with
  | some y =>
    obtain ⟨rfl, rfl⟩ : x = y ∧ er = .nilIface := by have h := HX.out; rw [hq] at h; exact h
    have HR3 := Lib.hid (show r = if x.o = o then ⟨L, e, lse0, -1, 9⟩ else newM L e t a o now x.o by rw [HR2.out, hq])
    clear hq
    have d2 : World.cell? w' ⟨W1.heap.size, 2, none⟩ = some (.int .i64 x.o) := by rw [HF2.out.2.2.1.at_]; rfl
    by_cases ho : x.o = o
    · have HRES := Lib.hid (show r = ⟨L, e, lse0, -1, 9⟩ by rw [HR3.out, if_pos ho])
      subst ho
      go_wp2_with fail
      clear d2
      obtain ⟨k1, k2⟩ := HF2.out
      have k2 := k2.1
      obtain ⟨k3, hlt⟩ := HER.out _ 8 (by decide) k1 k2
      have c0 := k2.at_ 0; have c1 := k2.at_ 1; have c2 := k2.at_ 2; have c3 := k2.at_ 3; have c4 := k2.at_ 4
      have f0 := k2.free 0; have f1 := k2.free 1; have f2 := k2.free 2; have f3 := k2.free 3; have f4 := k2.free 4
      simp only [lseC, lse0, List.getElem?_toArray, List.getElem?_cons_zero, List.getElem?_cons_succ] at c0 c1 c2 c3 c4
      have hlt : 1 < w.heap.size := hlt
      have hne : ¬ w.heap.size = 1 := by omega
      have hne' : ¬ 1 = w.heap.size := by omega
      change World.cell? _ ⟨1, 0, none⟩ = _ at k3
      clear k1 k2 hlt
      unfold errI at k3
      go_region
      go_wp2_with fail
      have hb5 : Below w.heap.size w (set5 _ w.heap.size lse0) := below5 HF2.out.1 HF2.out.1.size (Nat.le_refl _) lse0
      refine bodyPost_ret_by (results_row_tmp2 (p := 10) (u := 11) (v := 12) rfl _ _ w.heap.size 29 (lseV lse0).cells (0, 0) _ rfl (Whole.drew (stored5 HF2.out.2.1 lse0)) Tryd.underlying29 rfl (by kernel_rfl)) rfl ?_
      rw [HRES.out]
      exact ⟨rfl, (HF.out.1.below hb5 HF.out.1.inside).drew, (HF.out.2.1.kept (only_of_below (below_drawnN hb5 1) none) (by simp)), Kept2.of_below (below_drawnN hb5 1) g b⟩
    · have HRES := Lib.hid (show r = newM L e t a o now x.o by rw [HR3.out, if_neg ho])
      have HN := Lib.hid (show Below w.heap.size w w' ∧ Whole w' w.heap.size 29 (lseC lse0).toArray from ⟨HF2.out.1, HF2.out.2.1⟩)
      have c4 : World.cell? w' ⟨g, 4, none⟩ = some (.int .i64 e) := by rw [(HF.out.1.below HN.out.1 HF.out.1.inside).at_]; rfl
      have f4 : World.frozen? w' ⟨g, 4, none⟩ = false := (HF.out.1.below HN.out.1 HF.out.1.inside).free 4
      have he1 := HB.out.1.1
      have he2 := HB.out.1.2
      go_wp2_with fail
      clear c4 f4 he1 he2
      refine name_wp (fun W4 => Whole W4 g 60 (tabC n tt l b (e + 1)) ∧ TabAt W4 b L ∧ Whole W4 w.heap.size 29 (lseC lse0).toArray ∧ Kept2 w W4 g b ∧ w.heap.size < W4.heap.size) ?_ ?_
      · have hg := HF.out.1.inside
        have h1 := (HF.out.1.below HN.out.1 hg).stored 4 (.int .i64 (e + 1))
        have hs := (only_stored (w := w') (g := g) ⟨g, 4, none⟩ rfl (.int .i64 (e + 1)))
        exact ⟨h1, (HF.out.2.1.kept (only_of_below HN.out.1 none) (by simp)).kept hs (by intro h; injection h with h; exact HB.out.2.2 h.symm), HN.out.2.elsewhere _ (by show g ≠ _; omega) _, (Kept2.of_below HN.out.1 g b).trans ⟨hs.os, hs.tape, hs.output, hs.size, fun i hi h1 _ => hs.block i hi (fun h => h1 (by injection h))⟩, Nat.lt_of_lt_of_le HN.out.2.inside hs.size⟩
      intro W4 hF4
      have HF4 := Lib.hid hF4
      clear hF4
      have c4 : W4.cell? ⟨g, 4, none⟩ = some (.int .i64 (e + 1)) := by rw [HF4.out.1.at_]; rfl
      obtain ⟨tk, htk⟩ : ∃ tk, tk = tickI now := ⟨_, rfl⟩
      have HTK := Lib.hid htk
      have htc : ∀ W, Calls Tryd.prog 24 #[.int .i64 now] W fun e w' => e = .returned (.int .i64 tk) ∧ w' = W := fun W => by rw [htk]; exact tick_calls now W
      have HTC := Lib.hid htc
      clear htk htc
      go_region_held3 (fun w' => w'.cell? ⟨g, 4, none⟩ = some (.int .i64 (e + 1))) (go_keep)
        ((go_at_call 24; refine (HTC.out _).mono ?_; rintro e w' ⟨rfl, rfl⟩))
      all_goals
        go_wp2_with fail
        obtain ⟨z, hz⟩ : ∃ z : Lse, z = ⟨t, a, o, e + 1, tk⟩ := ⟨_, rfl⟩
        refine name_wp (fun W5 => Whole W5 g 60 (tabC n tt l b (e + 1)) ∧ TabAt W5 b L ∧ Whole W5 w.heap.size 29 (lseC lse0).toArray ∧ Kept2 w W5 g b ∧ Whole W5 W4.heap.size 29 (lseC z).toArray) ?_ ?_
        · obtain ⟨q1, q2, q3, q4, q5⟩ := HF4.out
          have hb := below_drawnN ((Below.refl W4.heap.size W4).alloc (Nat.le_refl _) (.cells #[Value.string t, Value.string a, Value.int IntKind.i64 o, Value.int IntKind.i64 (e + 1), Value.int IntKind.i64 tk] 29)) 1
          exact ⟨q1.below hb q1.inside, q2.kept (only_of_below hb none) (by simp), q3.below hb q3.inside, q4.trans (Kept2.of_below hb g b), (Whole.new rfl (by rw [hz]; rfl)).drew⟩
        intro W5 hF5
        have HF5 := Lib.hid hF5
        clear hF5
        have HZ := Lib.hid hz
        clear hz c4
        have e3 : W5.cell? ⟨g, 3, none⟩ = some (.map (some b)) := by rw [HF5.out.1.at_]; rfl
        have g0 : W5.cell? ⟨W4.heap.size, 0, none⟩ = some (.string t) := by rw [HF5.out.2.2.2.2.at_, HZ.out]; rfl
        have g1 : W5.cell? ⟨W4.heap.size, 1, none⟩ = some (.string a) := by rw [HF5.out.2.2.2.2.at_, HZ.out]; rfl
        have g2 : W5.cell? ⟨W4.heap.size, 2, none⟩ = some (.int .i64 o) := by rw [HF5.out.2.2.2.2.at_, HZ.out]; rfl
        have g3 : W5.cell? ⟨W4.heap.size, 3, none⟩ = some (.int .i64 (e + 1)) := by rw [HF5.out.2.2.2.2.at_, HZ.out]; rfl
        have g4 : W5.cell? ⟨W4.heap.size, 4, none⟩ = some (.int .i64 tk) := by rw [HF5.out.2.2.2.2.at_, HZ.out]; rfl
        obtain ⟨W6, hrun, h6, hg6⟩ := (HF5.out.2.1.kept (only_drawn (World.grownBy.refl W5 none)) (by simp) : TabAt W5.drew b L).put z (by rw [HZ.out]; exact HS.out.1) (by rw [HZ.out]; exact HS.out.2) (by have := HB.out.2.1; unfold maxLen; omega)
        have HF6 := Lib.hid (And.intro h6 hg6)
        rw [HZ.out] at hrun
        unfold nameV lseV at hrun
        clear h6 hg6
        have HF7 := Lib.hid (show Whole W6 g 60 (tabC n tt l b (e + 1)) ∧ Whole W6 w.heap.size 29 (lseC lse0).toArray ∧ Kept2 w W6 g b ∧ Whole W6 W4.heap.size 29 (lseC z).toArray by
          obtain ⟨q1, q2, q3, q4, q5⟩ := HF5.out
          have hg := HF6.out.2
          have hbw := HF.out.2.1.lt
          have hb4 := HF4.out.2.1.lt
          exact ⟨q1.drew.only hg (ne_some HB.out.2.2), q3.drew.only hg (ne_some (by omega)), q4.trans ((Kept2.of_below (below_drawnN (Below.refl _ _) 1) g b).trans (Kept2.of_only hg g)), q5.drew.only hg (ne_some (by omega))⟩)
        go_region
        clear e3 g0 g1 g2 g3 g4 hrun
        have g0 : W6.cell? ⟨W4.heap.size, 0, none⟩ = some (.string t) := by rw [HF7.out.2.2.2.at_, HZ.out]; rfl
        have g1 : W6.cell? ⟨W4.heap.size, 1, none⟩ = some (.string a) := by rw [HF7.out.2.2.2.at_, HZ.out]; rfl
        have g2 : W6.cell? ⟨W4.heap.size, 2, none⟩ = some (.int .i64 o) := by rw [HF7.out.2.2.2.at_, HZ.out]; rfl
        have g3 : W6.cell? ⟨W4.heap.size, 3, none⟩ = some (.int .i64 (e + 1)) := by rw [HF7.out.2.2.2.at_, HZ.out]; rfl
        have g4 : W6.cell? ⟨W4.heap.size, 4, none⟩ = some (.int .i64 tk) := by rw [HF7.out.2.2.2.at_, HZ.out]; rfl
        have k2 := HF7.out.2.1
        have c0 := k2.at_ 0; have c1 := k2.at_ 1; have c2 := k2.at_ 2; have c3 := k2.at_ 3; have c4 := k2.at_ 4
        have f0 := k2.free 0; have f1 := k2.free 1; have f2 := k2.free 2; have f3 := k2.free 3; have f4 := k2.free 4
        simp only [lseC, lse0, List.getElem?_toArray, List.getElem?_cons_zero, List.getElem?_cons_succ] at c0 c1 c2 c3 c4
        clear k2
        go_wp2_with fail
        have hz := HZ.out
        subst hz
        have htk := HTK.out
        subst htk
        have hbw := HF.out.2.1.lt
        have hgw := HF.out.1.inside
        have ho5 := only5 W6 w.heap.size ⟨t, a, o, e + 1, tickI now⟩
        have hP : TakeP E g b n tt l w r (.returned (.tuple #[lseV ⟨t, a, o, e + 1, tickI now⟩, .int .i64 x.o, .nilIface])) (set5 W6 w.heap.size ⟨t, a, o, e + 1, tickI now⟩) := by
          rw [HRES.out]
          have ht := (HF6.out.1.kept ho5 (ne_some (by omega))).perm (insL_perm ⟨t, a, o, e + 1, tickI now⟩ L)
          exact ⟨rfl, HF7.out.1.only ho5 (ne_some (by omega)), ht, HF7.out.2.2.1.later ho5 (Nat.le_refl _)⟩
        have hH := stored5 HF7.out.2.1 ⟨t, a, o, e + 1, tickI now⟩
        clear ho5 hbw hgw
        exact bodyPost_ret_by (results_row_tmp2 (p := 10) (u := 11) (v := 12) rfl _ _ w.heap.size 29 (lseV ⟨t, a, o, e + 1, tickI now⟩).cells (0, 0) _ rfl hH Tryd.underlying29 rfl (by kernel_rfl)) rfl hP
  | none =>
    obtain ⟨rfl, rfl⟩ : x = lse0 ∧ er = errI (E 7) := by have h := HX.out; rw [hq] at h; exact h
    have HR3 := Lib.hid (show r = if n ≤ (cntL L t : Int) then ⟨L, e, lse0, -1, 16⟩ else if tt ≤ (L.length : Int) then ⟨L, e, lse0, -1, 7⟩ else newM L e t a o now (-1) by rw [HR2.out, hq])
    clear hq
    unfold errI
    have d2 : World.cell? w' ⟨W1.heap.size, 2, none⟩ = some (.int .i64 lse0.o) := by rw [HF2.out.2.2.1.at_]; rfl
    go_wp2_with fail
    clear d2
    by_cases h9 : n ≤ (cntL L t : Int)
    · have HRES := Lib.hid (show r = ⟨L, e, lse0, -1, 16⟩ by rw [HR3.out, if_pos h9])
      have HC9 := Lib.hid (show ∀ W, Below w'.heap.size w' W → Whole W g 60 (tabC n tt l b e) ∧ TabAt W b L from fun W hb => ⟨(HF.out.1.below HF2.out.1 HF.out.1.inside).below hb (Nat.lt_of_lt_of_le HF.out.1.inside HF2.out.1.size), (HF.out.2.1.kept (only_of_below HF2.out.1 none) (by simp)).kept (only_of_below hb none) (by simp)⟩)
      have HK9 := Lib.hid (show ∀ W W3, Below w'.heap.size w' W → Below W.heap.size W W3 → W3.cell? ⟨g, 0, none⟩ = some (.int .i64 n) ∧ Below w.heap.size w W3 ∧ Whole W3 w.heap.size 29 (lseC lse0).toArray from fun W W3 hb hb3 => by
        have hg := (HC9.out W hb).1
        have h2 := hb.trans (hb3.mono hb.size)
        exact ⟨by rw [(hg.below hb3 hg.inside).at_]; rfl, HF2.out.1.trans (h2.mono HF2.out.1.size), HF2.out.2.1.below h2 HF2.out.2.1.inside⟩)
      have k9 : World.cell? w' ⟨g, 0, none⟩ = some (.int .i64 n) := (HK9.out w' w' (Below.refl _ _) (Below.refl _ _)).1
      go_region_held3 (fun W => W.cell? ⟨g, 0, none⟩ = some (.int .i64 n)) (go_keep)
        ((go_at_call 18; refine (count_calls g b n tt l e L HB.out.2.1 t _ (HC9.out _ (by go_grown)).1 (HC9.out _ (by go_grown)).2).mono ?_; rintro e W3 ⟨rfl, hb3⟩; obtain ⟨k10, hb4⟩ := HK9.out _ _ (by go_grown) hb3; have HB4 := Lib.hid hb4; clear hb3 hb4))
      all_goals go_wp2_with fail
      refine name_wp (fun W => Below w.heap.size w W ∧ Whole W w.heap.size 29 (lseC lse0).toArray ∧ True) ?_ ?_
      · exact ⟨HB4.out.1, HB4.out.2, trivial⟩
      intro W5 hF3
      have HF3 := Lib.hid hF3
      clear hF3 k9 k10
      obtain ⟨k1, k2⟩ := HF3.out
      have k2 := k2.1
      obtain ⟨k3, hlt⟩ := HER.out _ 15 (by decide) k1 k2
      have c0 := k2.at_ 0; have c1 := k2.at_ 1; have c2 := k2.at_ 2; have c3 := k2.at_ 3; have c4 := k2.at_ 4
      have f0 := k2.free 0; have f1 := k2.free 1; have f2 := k2.free 2; have f3 := k2.free 3; have f4 := k2.free 4
      simp only [lseC, lse0, List.getElem?_toArray, List.getElem?_cons_zero, List.getElem?_cons_succ] at c0 c1 c2 c3 c4
      have hlt : 2 < w.heap.size := hlt
      have hne : ¬ w.heap.size = 2 := by omega
      have hne' : ¬ 2 = w.heap.size := by omega
      change World.cell? _ ⟨2, 0, none⟩ = _ at k3
      clear k1 k2 hlt
      unfold errI at k3
      go_region
      go_wp2_with fail
      have hb5 : Below w.heap.size w (set5 _ w.heap.size lse0) := below5 HF3.out.1 HF3.out.1.size (Nat.le_refl _) lse0
      refine bodyPost_ret_by (results_row_tmp2 (p := 10) (u := 11) (v := 12) rfl _ _ w.heap.size 29 (lseV lse0).cells (0, 0) _ rfl (Whole.drew (stored5 HF3.out.2.1 lse0)) Tryd.underlying29 rfl (by kernel_rfl)) rfl ?_
      rw [HRES.out]
      exact ⟨rfl, (HF.out.1.below hb5 HF.out.1.inside).drew, (HF.out.2.1.kept (only_of_below (below_drawnN hb5 1) none) (by simp)), Kept2.of_below (below_drawnN hb5 1) g b⟩
    · have HR4 := Lib.hid (show r = if tt ≤ (L.length : Int) then ⟨L, e, lse0, -1, 7⟩ else newM L e t a o now (-1) by rw [HR3.out, if_neg h9])
      have HC9 := Lib.hid (show ∀ W, Below w'.heap.size w' W → Whole W g 60 (tabC n tt l b e) ∧ TabAt W b L from fun W hb => ⟨(HF.out.1.below HF2.out.1 HF.out.1.inside).below hb (Nat.lt_of_lt_of_le HF.out.1.inside HF2.out.1.size), (HF.out.2.1.kept (only_of_below HF2.out.1 none) (by simp)).kept (only_of_below hb none) (by simp)⟩)
      have HK9 := Lib.hid (show ∀ W W3, Below w'.heap.size w' W → Below W.heap.size W W3 → W3.cell? ⟨g, 0, none⟩ = some (.int .i64 n) ∧ Below w.heap.size w W3 ∧ Whole W3 w.heap.size 29 (lseC lse0).toArray from fun W W3 hb hb3 => by
        have hg := (HC9.out W hb).1
        have h2 := hb.trans (hb3.mono hb.size)
        exact ⟨by rw [(hg.below hb3 hg.inside).at_]; rfl, HF2.out.1.trans (h2.mono HF2.out.1.size), HF2.out.2.1.below h2 HF2.out.2.1.inside⟩)
      have k9 : World.cell? w' ⟨g, 0, none⟩ = some (.int .i64 n) := (HK9.out w' w' (Below.refl _ _) (Below.refl _ _)).1
      go_region_held3 (fun W => W.cell? ⟨g, 0, none⟩ = some (.int .i64 n)) (go_keep)
        ((go_at_call 18; refine (count_calls g b n tt l e L HB.out.2.1 t _ (HC9.out _ (by go_grown)).1 (HC9.out _ (by go_grown)).2).mono ?_; rintro e W3 ⟨rfl, hb3⟩; obtain ⟨k10, hb4⟩ := HK9.out _ _ (by go_grown) hb3; have HB4 := Lib.hid hb4; clear hb3 hb4))
      all_goals go_wp2_with fail
      refine name_wp (fun W => Below w.heap.size w W ∧ Whole W w.heap.size 29 (lseC lse0).toArray ∧ True) ?_ ?_
      · exact ⟨HB4.out.1, HB4.out.2, trivial⟩
      intro W5 hF3
      have HF3 := Lib.hid hF3
      clear hF3 k9 k10
      have k11 : W5.cell? ⟨g, 1, none⟩ = some (.int .i64 tt) := by rw [(HF.out.1.below HF3.out.1 HF.out.1.inside).at_]; rfl
      have k12 : W5.cell? ⟨g, 3, none⟩ = some (.map (some b)) := by rw [(HF.out.1.below HF3.out.1 HF.out.1.inside).at_]; rfl
      have hlen := ((HF.out.2.1.kept (only_of_below HF3.out.1 none) (by simp)).kept (only_drawn (World.grownBy.refl W5 none)) (by simp) : TabAt W5.drew b L).len
      by_cases h11 : tt ≤ (L.length : Int)
      · have HRES := Lib.hid (show r = ⟨L, e, lse0, -1, 7⟩ by rw [HR4.out, if_pos h11])
        go_region
        clear k11 k12 hlen
        go_wp2_with fail
        refine name_wp (fun W => Below w.heap.size w W ∧ Whole W w.heap.size 29 (lseC lse0).toArray ∧ True) ?_ ?_
        · exact ⟨below_drawnN HF3.out.1 1, HF3.out.2.1, trivial⟩
        intro W6 hF6
        have HF6 := Lib.hid hF6
        clear hF6
        obtain ⟨k1, k2⟩ := HF6.out
        have k2 := k2.1
        obtain ⟨k3, hlt⟩ := HER.out _ 6 (by decide) k1 k2
        have c0 := k2.at_ 0; have c1 := k2.at_ 1; have c2 := k2.at_ 2; have c3 := k2.at_ 3; have c4 := k2.at_ 4
        have f0 := k2.free 0; have f1 := k2.free 1; have f2 := k2.free 2; have f3 := k2.free 3; have f4 := k2.free 4
        simp only [lseC, lse0, List.getElem?_toArray, List.getElem?_cons_zero, List.getElem?_cons_succ] at c0 c1 c2 c3 c4
        have hlt : 3 < w.heap.size := hlt
        have hne : ¬ w.heap.size = 3 := by omega
        have hne' : ¬ 3 = w.heap.size := by omega
        change World.cell? _ ⟨3, 0, none⟩ = _ at k3
        clear k1 k2 hlt
        unfold errI at k3
        go_region
        go_wp2_with fail
        have hb5 : Below w.heap.size w (set5 _ w.heap.size lse0) := below5 HF6.out.1 HF6.out.1.size (Nat.le_refl _) lse0
        refine bodyPost_ret_by (results_row_tmp2 (p := 10) (u := 11) (v := 12) rfl _ _ w.heap.size 29 (lseV lse0).cells (0, 0) _ rfl (Whole.drew (stored5 HF6.out.2.1 lse0)) Tryd.underlying29 rfl (by kernel_rfl)) rfl ?_
        rw [HRES.out]
        exact ⟨rfl, (HF.out.1.below hb5 HF.out.1.inside).drew, (HF.out.2.1.kept (only_of_below (below_drawnN hb5 1) none) (by simp)), Kept2.of_below (below_drawnN hb5 1) g b⟩
      · have HRES := Lib.hid (show r = newM L e t a o now (-1) by rw [HR4.out, if_neg h11])
        have HN := Lib.hid (show Below w.heap.size w W5 ∧ Whole W5 w.heap.size 29 (lseC lse0).toArray from ⟨HF3.out.1, HF3.out.2.1⟩)
        have c4 : World.cell? W5 ⟨g, 4, none⟩ = some (.int .i64 e) := by rw [(HF.out.1.below HN.out.1 HF.out.1.inside).at_]; rfl
        have f4 : World.frozen? W5 ⟨g, 4, none⟩ = false := (HF.out.1.below HN.out.1 HF.out.1.inside).free 4
        have he1 := HB.out.1.1
        have he2 := HB.out.1.2
        go_region
        clear k11 k12 hlen
        go_wp2_with fail
        clear c4 f4 he1 he2
        refine name_wp (fun W4 => Whole W4 g 60 (tabC n tt l b (e + 1)) ∧ TabAt W4 b L ∧ Whole W4 w.heap.size 29 (lseC lse0).toArray ∧ Kept2 w W4 g b ∧ w.heap.size < W4.heap.size) ?_ ?_
        · have hg := HF.out.1.inside
          have h1 := (HF.out.1.below HN.out.1 hg).stored 4 (.int .i64 (e + 1))
          have hs := only_drawn (only_stored (w := W5) (g := g) ⟨g, 4, none⟩ rfl (.int .i64 (e + 1)))
          exact ⟨Whole.drew (h1), (HF.out.2.1.kept (only_of_below HN.out.1 none) (by simp)).kept hs (by intro h; injection h with h; exact HB.out.2.2 h.symm), Whole.drew (HN.out.2.elsewhere _ (by show g ≠ _; omega) _), (Kept2.of_below HN.out.1 g b).trans ⟨hs.os, hs.tape, hs.output, hs.size, fun i hi h1 _ => hs.block i hi (fun h => h1 (by injection h))⟩, Nat.lt_of_lt_of_le HN.out.2.inside hs.size⟩
        intro W4 hF4
        have HF4 := Lib.hid hF4
        clear hF4
        have c4 : W4.cell? ⟨g, 4, none⟩ = some (.int .i64 (e + 1)) := by rw [HF4.out.1.at_]; rfl
        obtain ⟨tk, htk⟩ : ∃ tk, tk = tickI now := ⟨_, rfl⟩
        have HTK := Lib.hid htk
        have htc : ∀ W, Calls Tryd.prog 24 #[.int .i64 now] W fun e w' => e = .returned (.int .i64 tk) ∧ w' = W := fun W => by rw [htk]; exact tick_calls now W
        have HTC := Lib.hid htc
        clear htk htc
        go_region_held3 (fun w' => w'.cell? ⟨g, 4, none⟩ = some (.int .i64 (e + 1))) (go_keep)
          ((go_at_call 24; refine (HTC.out _).mono ?_; rintro e w' ⟨rfl, rfl⟩))
        all_goals
          go_wp2_with fail
          obtain ⟨z, hz⟩ : ∃ z : Lse, z = ⟨t, a, o, e + 1, tk⟩ := ⟨_, rfl⟩
          refine name_wp (fun W5 => Whole W5 g 60 (tabC n tt l b (e + 1)) ∧ TabAt W5 b L ∧ Whole W5 w.heap.size 29 (lseC lse0).toArray ∧ Kept2 w W5 g b ∧ Whole W5 W4.heap.size 29 (lseC z).toArray) ?_ ?_
          · obtain ⟨q1, q2, q3, q4, q5⟩ := HF4.out
            have hb := below_drawnN ((Below.refl W4.heap.size W4).alloc (Nat.le_refl _) (.cells #[Value.string t, Value.string a, Value.int IntKind.i64 o, Value.int IntKind.i64 (e + 1), Value.int IntKind.i64 tk] 29)) 1
            exact ⟨q1.below hb q1.inside, q2.kept (only_of_below hb none) (by simp), q3.below hb q3.inside, q4.trans (Kept2.of_below hb g b), (Whole.new rfl (by rw [hz]; rfl)).drew⟩
          intro W5 hF5
          have HF5 := Lib.hid hF5
          clear hF5
          have HZ := Lib.hid hz
          clear hz c4
          have e3 : W5.cell? ⟨g, 3, none⟩ = some (.map (some b)) := by rw [HF5.out.1.at_]; rfl
          have g0 : W5.cell? ⟨W4.heap.size, 0, none⟩ = some (.string t) := by rw [HF5.out.2.2.2.2.at_, HZ.out]; rfl
          have g1 : W5.cell? ⟨W4.heap.size, 1, none⟩ = some (.string a) := by rw [HF5.out.2.2.2.2.at_, HZ.out]; rfl
          have g2 : W5.cell? ⟨W4.heap.size, 2, none⟩ = some (.int .i64 o) := by rw [HF5.out.2.2.2.2.at_, HZ.out]; rfl
          have g3 : W5.cell? ⟨W4.heap.size, 3, none⟩ = some (.int .i64 (e + 1)) := by rw [HF5.out.2.2.2.2.at_, HZ.out]; rfl
          have g4 : W5.cell? ⟨W4.heap.size, 4, none⟩ = some (.int .i64 tk) := by rw [HF5.out.2.2.2.2.at_, HZ.out]; rfl
          obtain ⟨W6, hrun, h6, hg6⟩ := (HF5.out.2.1.kept (only_drawn (World.grownBy.refl W5 none)) (by simp) : TabAt W5.drew b L).put z (by rw [HZ.out]; exact HS.out.1) (by rw [HZ.out]; exact HS.out.2) (by have := HB.out.2.1; unfold maxLen; omega)
          have HF6 := Lib.hid (And.intro h6 hg6)
          rw [HZ.out] at hrun
          unfold nameV lseV at hrun
          clear h6 hg6
          have HF7 := Lib.hid (show Whole W6 g 60 (tabC n tt l b (e + 1)) ∧ Whole W6 w.heap.size 29 (lseC lse0).toArray ∧ Kept2 w W6 g b ∧ Whole W6 W4.heap.size 29 (lseC z).toArray by
            obtain ⟨q1, q2, q3, q4, q5⟩ := HF5.out
            have hg := HF6.out.2
            have hbw := HF.out.2.1.lt
            have hb4 := HF4.out.2.1.lt
            exact ⟨q1.drew.only hg (ne_some HB.out.2.2), q3.drew.only hg (ne_some (by omega)), q4.trans ((Kept2.of_below (below_drawnN (Below.refl _ _) 1) g b).trans (Kept2.of_only hg g)), q5.drew.only hg (ne_some (by omega))⟩)
          go_region
          clear e3 g0 g1 g2 g3 g4 hrun
          have g0 : W6.cell? ⟨W4.heap.size, 0, none⟩ = some (.string t) := by rw [HF7.out.2.2.2.at_, HZ.out]; rfl
          have g1 : W6.cell? ⟨W4.heap.size, 1, none⟩ = some (.string a) := by rw [HF7.out.2.2.2.at_, HZ.out]; rfl
          have g2 : W6.cell? ⟨W4.heap.size, 2, none⟩ = some (.int .i64 o) := by rw [HF7.out.2.2.2.at_, HZ.out]; rfl
          have g3 : W6.cell? ⟨W4.heap.size, 3, none⟩ = some (.int .i64 (e + 1)) := by rw [HF7.out.2.2.2.at_, HZ.out]; rfl
          have g4 : W6.cell? ⟨W4.heap.size, 4, none⟩ = some (.int .i64 tk) := by rw [HF7.out.2.2.2.at_, HZ.out]; rfl
          have k2 := HF7.out.2.1
          have c0 := k2.at_ 0; have c1 := k2.at_ 1; have c2 := k2.at_ 2; have c3 := k2.at_ 3; have c4 := k2.at_ 4
          have f0 := k2.free 0; have f1 := k2.free 1; have f2 := k2.free 2; have f3 := k2.free 3; have f4 := k2.free 4
          simp only [lseC, lse0, List.getElem?_toArray, List.getElem?_cons_zero, List.getElem?_cons_succ] at c0 c1 c2 c3 c4
          clear k2
          go_wp2_with fail
          have hz := HZ.out
          subst hz
          have htk := HTK.out
          subst htk
          have hbw := HF.out.2.1.lt
          have hgw := HF.out.1.inside
          have ho5 := only5 W6 w.heap.size ⟨t, a, o, e + 1, tickI now⟩
          have hP : TakeP E g b n tt l w r (.returned (.tuple #[lseV ⟨t, a, o, e + 1, tickI now⟩, .int .i64 (-1), .nilIface])) (set5 W6 w.heap.size ⟨t, a, o, e + 1, tickI now⟩) := by
            rw [HRES.out]
            have ht := (HF6.out.1.kept ho5 (ne_some (by omega))).perm (insL_perm ⟨t, a, o, e + 1, tickI now⟩ L)
            exact ⟨rfl, HF7.out.1.only ho5 (ne_some (by omega)), ht, HF7.out.2.2.1.later ho5 (Nat.le_refl _)⟩
          have hH := stored5 HF7.out.2.1 ⟨t, a, o, e + 1, tickI now⟩
          clear ho5 hbw hgw
          exact bodyPost_ret_by (results_row_tmp2 (p := 10) (u := 11) (v := 12) rfl _ _ w.heap.size 29 (lseV ⟨t, a, o, e + 1, tickI now⟩).cells (0, 0) _ rfl hH Tryd.underlying29 rfl (by kernel_rfl)) rfl hP
end Go.Proofs.YtlkgdnmfgcmldaaDoor
