/- The table's Cancel. -/
import Derived.Test.YtlkgdnmfgcmldaaDoorLea15
namespace Go.Proofs.YtlkgdnmfgcmldaaDoor
open Go.RowKit Go.Spk
set_option linter.unusedVariables false
def cancelM (L : List Lse) (t a : ByteArray) (o : Int) : List Lse × Lse × Nat :=
  match lookL L t a with
  | some x => if x.o = o then (L.filter (notN t a), x, 0) else (L, lse0, 8)
  | none => (L, lse0, 8)
structure CancelP (E : Nat → Addr) (b : Nat) (w : World) (r : List Lse × Lse × Nat) (e : Ending) (w' : World) : Prop where
  ret : e = .returned (.tuple #[lseV r.2.1, errV E r.2.2])
  tab : TabAt w' b r.1
  kept : w.grownBy w' (some b)
theorem only_of_later {w w' w'' : World} {b n : Nat} (h : w.grownBy w' (some b)) (k : w'.grownBy w'' (some n)) (hn : w.heap.size ≤ n) : w.grownBy w'' (some b) :=
  ⟨k.os.trans h.os, k.tape.trans h.tape, k.output.trans h.output, Nat.le_trans h.size k.size, fun i hi h1 => (k.block i (Nat.lt_of_lt_of_le hi h.size) (fun e => by injection e with e; omega)).trans (h.block i hi h1)⟩
def foundX (L : List Lse) (t a : ByteArray) : Lse := (lookL L t a).getD lse0
def foundE (E : Addr) (L : List Lse) (t a : ByteArray) : Value := if (lookL L t a).isSome then .nilIface else errI E
theorem find_gen (g b : Nat) (n tt l e : Int) (L : List Lse) (t a : ByteArray) (ht : t.size ≤ maxLen) (ha : a.size ≤ maxLen) (E : Addr) (w : World) (hT : Whole w g 60 (tabC n tt l b e)) (hM : TabAt w b L)
    (hE : w.cell? ⟨4, 0, none⟩ = some (errI E)) :
    Calls Tryd.prog 11 #[.pointer (some ⟨g, 0, none⟩), .string t, .string a] w fun e w' => e = .returned (.tuple #[lseV (foundX L t a), foundE E L t a]) ∧ Below w.heap.size w w' := by
  have h := find_any g b n tt l e L t a ht ha E w hT hM hE
  unfold foundX foundE
  cases hq : lookL L t a with
  | none => rw [hq] at h; exact h
  | some x => rw [hq] at h; exact h
set_option maxRecDepth 100000 in
set_option maxHeartbeats 2000000 in
theorem cancel_calls (g b : Nat) (n tt l e : Int) (L : List Lse) (t a : ByteArray) (o : Int) (ht : t.size ≤ maxLen) (ha : a.size ≤ maxLen) (E : Nat → Addr) (w : World) (hT : Whole w g 60 (tabC n tt l b e)) (hM : TabAt w b L) (hE : Errs w E) :
    Calls Tryd.prog 21 #[.pointer (some ⟨g, 0, none⟩), .string t, .string a, .int .i64 o] w (CancelP E b w (cancelM L t a o)) := by
  have HF := Lib.hid (show Whole w g 60 (tabC n tt l b e) ∧ TabAt w b L ∧ Errs w E from ⟨hT, hM, hE⟩)
  have HS := Lib.hid (And.intro ht ha)
  clear hT hM hE ht ha
  obtain ⟨r, hr⟩ : ∃ r, r = cancelM L t a o := ⟨_, rfl⟩
  have HR := Lib.hid hr
  rw [← hr]
  clear hr
  obtain ⟨x, hx⟩ : ∃ x : Lse, x = foundX L t a := ⟨_, rfl⟩
  obtain ⟨er, her⟩ : ∃ er : Value, er = foundE (E 7) L t a := ⟨_, rfl⟩
  have HX := Lib.hid (And.intro hx her)
  clear hx her
  go_enter Tryd.func21, Tryd.ntmps21
  go_wp2_with fail
  generalize hW : World.alloc _ _ = W0
  have H0 := Lib.hid (show Below w.heap.size w W0 ∧ Whole W0 w.heap.size 29 (lseC lse0).toArray ∧ w.heap.size + 1 = W0.heap.size by subst hW; exact ⟨by go_grown, Whole.new rfl rfl, by simp⟩)
  clear hW
  have hfind := find_gen g b n tt l e L t a HS.out.1 HS.out.2 (E 7) W0 (HF.out.1.below H0.out.1 HF.out.1.inside) (HF.out.2.1.kept (only_of_below H0.out.1 none) (by simp)) ((HF.out.2.2.below H0.out.1).var 7 (by decide))
  rw [← HX.out.1, ← HX.out.2] at hfind
  refine hfind.mono ?_
  clear hfind
  rintro e W1 ⟨rfl, hb1⟩
  have H1 := Lib.hid hb1
  clear hb1
  have hw1 := ((H0.out.2.1.below H1.out (by have := H0.out.2.2; omega)).alloc (.cells #[Value.string x.t, Value.string x.a, Value.int IntKind.i64 x.o, Value.int IntKind.i64 x.e, Value.int IntKind.i64 x.l] 29))
  have hbb := (H0.out.1.trans (H1.out.mono (by have := H0.out.2.2; omega))).alloc (by have := H1.out.size; have := H0.out.2.2; omega) (.cells #[Value.string x.t, Value.string x.a, Value.int IntKind.i64 x.o, Value.int IntKind.i64 x.e, Value.int IntKind.i64 x.l] 29)
  have hnn : Whole (W1.alloc (.cells #[Value.string x.t, Value.string x.a, Value.int IntKind.i64 x.o, Value.int IntKind.i64 x.e, Value.int IntKind.i64 x.l] 29)) W1.heap.size 29 (lseC x).toArray := Whole.new rfl rfl
  have HN := Lib.hid (show w.heap.size < W1.heap.size by have := H1.out.size; have := H0.out.2.2; omega)
  have HW := Lib.hid (And.intro hw1 (And.intro hbb hnn))
  clear hw1 hbb hnn
  have c3 : ∀ W, Below w.heap.size w W → W.cell? ⟨g, 3, none⟩ = some (.map (some b)) := fun W hb => by rw [(HF.out.1.below hb HF.out.1.inside).at_]; rfl
  have C3 := Lib.hid c3
  clear c3
  unfold lseV
  cases hq : lookL L t a with
  | none =>
    obtain ⟨rfl, rfl⟩ : x = lse0 ∧ er = errI (E 7) := by have h := HX.out; unfold foundX foundE at h; rw [hq] at h; exact h
    have HRES := Lib.hid (show r = (L, lse0, 8) by rw [HR.out]; unfold cancelM; rw [hq])
    clear hq
    unfold errI
    go_wp2_with fail
    refine name_wp (fun W => Below w.heap.size w W ∧ Whole W w.heap.size 29 (lseC lse0).toArray) ⟨HW.out.2.1, HW.out.1⟩ ?_
    intro W2 hF2
    have HF2 := Lib.hid hF2
    have k3 : W2.cell? ⟨4, 0, none⟩ = some (errI (E 7)) := (HF.out.2.2.below hF2.1).var 7 (by decide)
    have hlt : 4 < w.heap.size := block_lt_of_cell (HF.out.2.2.var 7 (by decide))
    have hne : ¬ w.heap.size = 4 := by omega
    have hne' : ¬ 4 = w.heap.size := by omega
    have k2 := hF2.2
    have c0 := k2.at_ 0; have c1 := k2.at_ 1; have c2 := k2.at_ 2; have c3 := k2.at_ 3; have c4 := k2.at_ 4
    have f0 := k2.free 0; have f1 := k2.free 1; have f2 := k2.free 2; have f3 := k2.free 3; have f4 := k2.free 4
    simp only [lseC, lse0, List.getElem?_toArray, List.getElem?_cons_zero, List.getElem?_cons_succ] at c0 c1 c2 c3 c4
    clear k2 hlt hF2
    unfold errI at k3
    go_region
    go_wp2_with fail
    have hP : CancelP E b w r (.returned (.tuple #[lseV lse0, errI (E 7)])) (set5 W2 w.heap.size lse0).drew := by
      have hb5 : Below w.heap.size w (set5 W2 w.heap.size lse0).drew := below_drawnN (below5 HF2.out.1 HF2.out.1.size (Nat.le_refl _) lse0) 1
      rw [HRES.out]
      exact ⟨rfl, HF.out.2.1.kept (only_of_below hb5 none) (by simp), only_of_below hb5 _⟩
    have hH := Whole.drew (stored5 HF2.out.2 lse0)
    exact bodyPost_ret_by (results_row_tmp (p := 8) (u := 9) rfl _ _ w.heap.size 29 (lseV lse0).cells (0, 0) _ rfl hH Tryd.underlying29 rfl (by kernel_rfl)) rfl hP
  | some y =>
    obtain ⟨rfl, rfl⟩ : x = y ∧ er = .nilIface := by have h := HX.out; unfold foundX foundE at h; rw [hq] at h; exact h
    have HR3 := Lib.hid (show r = if x.o = o then (L.filter (notN t a), x, 0) else (L, lse0, 8) by rw [HR.out]; unfold cancelM; rw [hq])
    clear hq
    by_cases ho : x.o = o
    · have HRES := Lib.hid (show r = (L.filter (notN t a), x, 0) by rw [HR3.out, if_pos ho])
      subst ho
      have e3 := C3.out _ HW.out.2.1
      obtain ⟨W3, hrun, h3, hg3⟩ := (HF.out.2.1.kept (only_of_below HW.out.2.1 none) (by simp)).drop t a HS.out.1 HS.out.2 0
      have hbw := HF.out.2.1.lt
      have HF3 := Lib.hid (show Whole W3 w.heap.size 29 (lseC lse0).toArray ∧ Whole W3 W1.heap.size 29 (lseC x).toArray ∧ TabAt W3 b (L.filter (notN t a)) ∧ w.grownBy W3 (some b) from
        ⟨HW.out.1.only hg3 (ne_some (by omega)), HW.out.2.2.only hg3 (ne_some (by have := HN.out; omega)), h3, only_trans (only_of_below HW.out.2.1 _) hg3⟩)
      clear h3 hg3 hbw
      unfold nameV at hrun
      have k2 := HF3.out.1
      have c0 := k2.at_ 0; have c1 := k2.at_ 1; have c2 := k2.at_ 2; have c3 := k2.at_ 3; have c4 := k2.at_ 4
      have f0 := k2.free 0; have f1 := k2.free 1; have f2 := k2.free 2; have f3 := k2.free 3; have f4 := k2.free 4
      have k3 := HF3.out.2.1
      have d0 := k3.at_ 0; have d1 := k3.at_ 1; have d2 := k3.at_ 2; have d3 := k3.at_ 3; have d4 := k3.at_ 4
      simp only [lseC, lse0, List.getElem?_toArray, List.getElem?_cons_zero, List.getElem?_cons_succ] at c0 c1 c2 c3 c4 d0 d1 d2 d3 d4
      clear k2 k3
      go_wp2_with fail
      have ho5 := only5 W3 w.heap.size x
      have hbw := HF.out.2.1.lt
      have hP : CancelP E b w r (.returned (.tuple #[lseV x, .nilIface])) (set5 W3 w.heap.size x) := by
        rw [HRES.out]
        exact ⟨rfl, HF3.out.2.2.1.kept ho5 (ne_some (by omega)), only_of_later HF3.out.2.2.2 ho5 (Nat.le_refl _)⟩
      have hH := stored5 HF3.out.1 x
      clear ho5 hbw
      exact bodyPost_ret_by (results_row_tmp (p := 8) (u := 9) rfl _ _ w.heap.size 29 (lseV x).cells (0, 0) _ rfl hH Tryd.underlying29 rfl (by kernel_rfl)) rfl hP
    · have HRES := Lib.hid (show r = (L, lse0, 8) by rw [HR3.out, if_neg ho])
      go_wp2_with fail
      refine name_wp (fun W => Below w.heap.size w W ∧ Whole W w.heap.size 29 (lseC lse0).toArray) ⟨HW.out.2.1, HW.out.1⟩ ?_
      intro W2 hF2
      have HF2 := Lib.hid hF2
      have k3 : W2.cell? ⟨4, 0, none⟩ = some (errI (E 7)) := (HF.out.2.2.below hF2.1).var 7 (by decide)
      have hlt : 4 < w.heap.size := block_lt_of_cell (HF.out.2.2.var 7 (by decide))
      have hne : ¬ w.heap.size = 4 := by omega
      have hne' : ¬ 4 = w.heap.size := by omega
      have k2 := hF2.2
      have c0 := k2.at_ 0; have c1 := k2.at_ 1; have c2 := k2.at_ 2; have c3 := k2.at_ 3; have c4 := k2.at_ 4
      have f0 := k2.free 0; have f1 := k2.free 1; have f2 := k2.free 2; have f3 := k2.free 3; have f4 := k2.free 4
      simp only [lseC, lse0, List.getElem?_toArray, List.getElem?_cons_zero, List.getElem?_cons_succ] at c0 c1 c2 c3 c4
      clear k2 hlt hF2
      unfold errI at k3
      go_region
      go_wp2_with fail
      have hP : CancelP E b w r (.returned (.tuple #[lseV lse0, errI (E 7)])) (set5 W2 w.heap.size lse0).drew := by
        have hb5 : Below w.heap.size w (set5 W2 w.heap.size lse0).drew := below_drawnN (below5 HF2.out.1 HF2.out.1.size (Nat.le_refl _) lse0) 1
        rw [HRES.out]
        exact ⟨rfl, HF.out.2.1.kept (only_of_below hb5 none) (by simp), only_of_below hb5 _⟩
      have hH := Whole.drew (stored5 HF2.out.2 lse0)
      exact bodyPost_ret_by (results_row_tmp (p := 8) (u := 9) rfl _ _ w.heap.size 29 (lseV lse0).cells (0, 0) _ rfl hH Tryd.underlying29 rfl (by kernel_rfl)) rfl hP
end Go.Proofs.YtlkgdnmfgcmldaaDoor
