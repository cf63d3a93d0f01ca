/- The reference's table: Sift. -/
import Derived.Test.YtlkgdnmfgcmldaaDoorLea27
import Derived.Deep.QuietTactic
import Derived.BigQuiet
namespace Go.Proofs.YtlkgdnmfgcmldaaDoor
open Go.RowKit Go.Spk
set_option linter.unusedVariables false
def isIt (x y : Lse) : Bool := decide (y.o = x.o) && (decide (y.t = x.t) && decide (y.a = x.a))
theorem sifted_yes {p : Lse → Bool} {L : List Lse} {k : Nat} {y : Lse} (hy : L[k]? = some y) (hp : p y = true) : (L.take (k + 1)).filter p = (L.take k).filter p ++ [y] ∧ (L.take (k + 1)).filter (fun z => !p z) = (L.take k).filter (fun z => !p z) := by
  rw [take_succ_of hy, List.filter_append, List.filter_append]; simp [hp]
theorem sifted_no {p : Lse → Bool} {L : List Lse} {k : Nat} {y : Lse} (hy : L[k]? = some y) (hp : p y = false) : (L.take (k + 1)).filter p = (L.take k).filter p ∧ (L.take (k + 1)).filter (fun z => !p z) = (L.take k).filter (fun z => !p z) ++ [y] := by
  rw [take_succ_of hy, List.filter_append, List.filter_append]; simp [hp]
/-- What the loop of Sift holds of the two slices. -/
def Sifting (w wr : World) (s u : Value) (n tt l e : Int) (v : Value) (x : Lse) (La Lb : List Lse) : Prop :=
  Lows wr (w.heap.size + 3) 71 s La ∧ Lows wr (w.heap.size + 3) 71 u Lb ∧ (∀ q, s.ownBlock = some q → u.ownBlock ≠ some q) ∧ Below w.heap.size w wr ∧ Whole wr w.heap.size 44 (refC n tt l e v) ∧
  Whole wr (w.heap.size + 1) 71 (lseC x).toArray ∧ Whole wr (w.heap.size + 2) 44 (refC 0 0 0 0 (.slice none 0 0)) ∧ w.heap.size + 3 ≤ wr.heap.size
theorem Sifting.quiet {w wr W : World} {s u : Value} {n tt l e : Int} {v : Value} {x : Lse} {La Lb : List Lse} (h : Sifting w wr s u n tt l e v x La Lb) (hb : Below wr.heap.size wr W) : Sifting w W s u n tt l e v x La Lb := by
  obtain ⟨q1, q2, q3, q4, q5, q6, q7, q8⟩ := h
  exact ⟨q1.kept (only_of_below hb none) (own_or _), q2.kept (only_of_below hb none) (own_or _), q3, q4.trans (hb.mono q4.size), q5.below hb q5.inside, q6.below hb q6.inside, q7.below hb q7.inside, Nat.le_trans q8 hb.size⟩
theorem Sifting.gone {w W W7 : World} {s u v' : Value} {n tt l e : Int} {v : Value} {x : Lse} {La Lb Lc : List Lse} (h : Sifting w W s u n tt l e v x La Lb) (h7 : Lows W7 (w.heap.size + 3) 71 v' Lc) (hg : W.grownBy W7 u.ownBlock) (hl : v'.ownBlock = u.ownBlock ∨ v'.ownBlock = some W.heap.size) : Sifting w W7 s v' n tt l e v x La Lc := by
  obtain ⟨q1, q2, q3, q4, q5, q6, q7, q8⟩ := h
  have hlt := fun g hg => (q2.lt g hg).1
  refine ⟨q1.kept hg ?_, h7, ?_, q4.grown hg q4.size (fun k hk => by have := hlt k hk; omega), q5.only hg (fun e => by have := hlt _ e.symm; omega), q6.only hg (fun e => by have := hlt _ e.symm; omega), q7.only hg (fun e => by have := hlt _ e.symm; omega), Nat.le_trans q8 hg.size⟩
  · cases hs : s.ownBlock with
    | none => exact .inl rfl
    | some q => exact .inr (fun e => q3 q hs e.symm)
  · intro q hq
    rcases hl with h | h
    · rw [h]; exact q3 q hq
    · rw [h]; intro e; injection e with e; have := (q1.lt q hq).2; omega
theorem Sifting.left {w W W7 : World} {s u v' : Value} {n tt l e : Int} {v : Value} {x : Lse} {La Lb Lc : List Lse} (h : Sifting w W s u n tt l e v x La Lb) (h7 : Lows W7 (w.heap.size + 3) 71 v' Lc) (hg : W.grownBy W7 s.ownBlock) (hl : v'.ownBlock = s.ownBlock ∨ v'.ownBlock = some W.heap.size) : Sifting w W7 v' u n tt l e v x Lc Lb := by
  obtain ⟨q1, q2, q3, q4, q5, q6, q7, q8⟩ := h
  have hlt := fun g hg => (q1.lt g hg).1
  refine ⟨h7, q2.kept hg ?_, ?_, q4.grown hg q4.size (fun k hk => by have := hlt k hk; omega), q5.only hg (fun e => by have := hlt _ e.symm; omega), q6.only hg (fun e => by have := hlt _ e.symm; omega), q7.only hg (fun e => by have := hlt _ e.symm; omega), Nat.le_trans q8 hg.size⟩
  · cases hs : s.ownBlock with
    | none =>
      cases hu : u.ownBlock with
      | none => exact .inl rfl
      | some q => exact .inr (by simp)
    | some q => exact .inr (q3 q hs)
  · intro q hq
    rcases hl with h | h
    · rw [h] at hq; exact q3 q hq
    · rw [h] at hq; injection hq with hq; intro e; have := (q2.lt q e).2; omega
set_option maxRecDepth 100000 in
set_option maxHeartbeats 8000000 in
theorem rsift0_calls (n tt l e : Int) (B : Nat) (v : Value) (L : List Lse) (hL : L.length ≤ 100000) (x : Lse) (m : Int) (w : World) (h : Lows w B 71 v L) :
    Calls Tryd.prog 29 #[refV n tt l e v, .int .i64 0, .agg (lseC x).toArray, .int .i64 m] w fun en w' => ∃ v' g', en = .returned (.tuple #[refV n tt l e v', g']) ∧ Lows w' w.heap.size 71 v' (L.filter fun y => !(isOwn m) y) ∧ Lows w' w.heap.size 71 g' (L.filter (isOwn m)) ∧ Below w.heap.size w w' := by
  obtain ⟨A, c, rfl⟩ := h.lens
  have hm : (L.length : Int) ≤ 100000 := by omega
  have H := Lib.hid h
  have HL := Lib.hid hL
  obtain ⟨p, hp⟩ : ∃ p : Lse → Bool, p = (isOwn m) := ⟨_, rfl⟩
  rw [show (fun y => !(isOwn m) y) = (fun y => !p y) by rw [hp], ← hp]
  have HP := Lib.hid hp
  clear h hL hp
  unfold refV lseC
  go_enter Tryd.func29, Tryd.ntmps29
  go_wp2_with fail
  go_loopg [10, 11, 22] L.length (fun gq s u i wr => ∃ k : Nat, gq + k = L.length ∧ i = .int .i64 k ∧ Sifting w wr s u n tt l e (.slice A L.length c) x ((L.take k).filter (fun y => !p y)) ((L.take k).filter p))
  case atStart =>
    have a1 : Whole (w.alloc (.cells (refC n tt l e (.slice A L.length c)) 44)) w.heap.size 44 (refC n tt l e (.slice A L.length c)) := Whole.new rfl rfl
    have a2 : Whole ((w.alloc (.cells (refC n tt l e (.slice A L.length c)) 44)).alloc (.cells (lseC x).toArray 71)) (w.heap.size + 1) 71 (lseC x).toArray := Whole.new (by simp) rfl
    have a3 : Whole (((w.alloc (.cells (refC n tt l e (.slice A L.length c)) 44)).alloc (.cells (lseC x).toArray 71)).alloc (.cells (refC 0 0 0 0 (.slice none 0 0)) 44)) (w.heap.size + 2) 44 (refC 0 0 0 0 (.slice none 0 0)) := Whole.new (by simp) rfl
    have a4 := Lows.empty (w := ((w.alloc (.cells (refC n tt l e (.slice A L.length c)) 44)).alloc (.cells (lseC x).toArray 71)).alloc (.cells (refC 0 0 0 0 (.slice none 0 0)) 44)) (B := w.heap.size + 3) (T := 71) (by simp)
    have a5 := Lows.empty (w := (((w.alloc (.cells (refC n tt l e (.slice A L.length c)) 44)).alloc (.cells (lseC x).toArray 71)).alloc (.cells (refC 0 0 0 0 (.slice none 0 0)) 44)).alloc (.cells #[] 71)) (B := w.heap.size + 3) (T := 71) (by simp)
    have a6 := a4.kept (World.grownBy_alloc _ (.cells #[] 71) none) (own_or _)
    simp only [World.size_alloc] at a5 a6
    exact ⟨0, rfl, rfl, a6, a5, (fun q hq => by simp [Value.ownBlock] at hq ⊢; omega), by go_grown, (((a1.alloc _).alloc _).alloc _).alloc _, ((a2.alloc _).alloc _).alloc _, (a3.alloc _).alloc _, by simp⟩
  case round =>
    obtain ⟨k, hgk, rfl, hsi⟩ := hrel
    have HA := Lib.hid (And.intro hsi hgk)
    clear hsi
    by_cases hlt : k < L.length
    · obtain ⟨y, hy⟩ : ∃ y, L[k]? = some y := ⟨L[k], List.getElem?_eq_getElem hlt⟩
      obtain ⟨gv, cap2, hv, _, _, hcell⟩ := (H.out.rest HA.out.1.2.2.2.1).at_ hy
      injection hv with hv1 hv2 hv3
      subst hv1; subst hv3
      have f0 : wr.cell? ⟨gv, k * 5, none⟩ = some (.string y.t) := (hcell 0 _ rfl).1
      have f1 : wr.cell? ⟨gv, k * 5 + 1, none⟩ = some (.string y.a) := (hcell 1 _ rfl).1
      have f2 : wr.cell? ⟨gv, k * 5 + 2, none⟩ = some (.int .i64 y.o) := (hcell 2 _ rfl).1
      have f3 : wr.cell? ⟨gv, k * 5 + 3, none⟩ = some (.int .i64 y.e) := (hcell 3 _ rfl).1
      have f4 : wr.cell? ⟨gv, k * 5 + 4, none⟩ = some (.int .i64 y.l) := (hcell 4 _ rfl).1
      have HY := Lib.hid hy
      have hym : y ∈ L := List.mem_of_getElem? hy
      have hqi : (k : Int) < L.length := by omega
      clear hy hcell hv2 hgk
      by_cases hp : y.o = m
      · have hb : (y.o == m) = true := by simp [hp]
        have HPY := Lib.hid (show p y = true by rw [HP.out]; unfold isOwn; simp [hp])
        clear hp
        have HE := Lib.hid (sifted_yes HY.out HPY.out)
        go_upto_region 7 with fail
        go_quiet (fail)
        go_upto_region 8 with fail
        refine name_wp (fun W => Below wr.heap.size wr W ∧ Whole W wr.heap.size 71 (lseC y).toArray) ⟨below_drawnN ((Below.refl _ _).alloc (Nat.le_refl _) _) _, (Whole.new rfl rfl).drewN _⟩ ?_
        intro W5 hF5
        have HF5 := Lib.hid hF5
        clear hF5 f0 f1 f2 f3 f4
        have g0 : W5.cell? ⟨wr.heap.size, 0, none⟩ = some (.string y.t) := by rw [HF5.out.2.at_]; rfl
        have g1 : W5.cell? ⟨wr.heap.size, 1, none⟩ = some (.string y.a) := by rw [HF5.out.2.at_]; rfl
        have g2 : W5.cell? ⟨wr.heap.size, 2, none⟩ = some (.int .i64 y.o) := by rw [HF5.out.2.at_]; rfl
        have g3 : W5.cell? ⟨wr.heap.size, 3, none⟩ = some (.int .i64 y.e) := by rw [HF5.out.2.at_]; rfl
        have g4 : W5.cell? ⟨wr.heap.size, 4, none⟩ = some (.int .i64 y.l) := by rw [HF5.out.2.at_]; rfl
        go_wp2_with (first
          | (at_builtin; refine wpList_pushL rfl _ _ 42 rfl (w.heap.size + 3) 71 (lseV lse0) 56 Tryd.underlying42 rlseInfo rfl (by omega) _ ((L.take k).filter p) y rfl ((HA.out.1.2.1.kept (only_of_below HF5.out.1 none) (own_or _)).kept (World.grownBy_alloc _ _ none) (own_or _)) W5.heap.size 1 rfl ?c3 ?c4 ?c5 ?_)
          | fail)
        case c3 => exact Whole.new rfl rfl
        case c4 => have h1 := List.length_filter_le p (L.take k); rw [List.length_take] at h1; have := HL.out; omega
        case c5 => have := HF5.out.1.size; have := HA.out.1.2.2.2.2.2.2.2; simp; omega
        intro v' W7 h7 hg7 hloc
        have HF7 := Lib.hid (show Sifting w W7 _ v' n tt l e (.slice (some ⟨gv, 0, none⟩) L.length c) x ((L.take (k + 1)).filter (fun y => !p y)) ((L.take (k + 1)).filter p) by
          have hq := (HA.out.1.quiet (HF5.out.1.alloc HF5.out.1.size (.cells (lseC y).toArray 71))).gone h7 hg7 (by rw [World.size_alloc]; exact hloc)
          rw [HE.out.1, HE.out.2]
          exact hq)
        clear h7 hg7 hloc g0 g1 g2 g3 g4
        go_wp2_with fail
        go_roundg (L.length - (k + 1))
        case measure => have := HA.out.2; omega
        case rel => exact ⟨k + 1, by have := HA.out.2; omega, by go_num, HF7.out⟩
      · have hb : (y.o == m) = false := by simp [hp]
        have HPY := Lib.hid (show p y = false by rw [HP.out]; unfold isOwn; simp [hp])
        clear hp
        have HE := Lib.hid (sifted_no HY.out HPY.out)
        go_upto_region 7 with fail
        go_quiet (fail)
        go_upto_region 8 with fail
        refine name_wp (fun W => Below wr.heap.size wr W ∧ Whole W wr.heap.size 71 (lseC y).toArray) ⟨below_drawnN ((Below.refl _ _).alloc (Nat.le_refl _) _) _, (Whole.new rfl rfl).drewN _⟩ ?_
        intro W5 hF5
        have HF5 := Lib.hid hF5
        clear hF5 f0 f1 f2 f3 f4
        have g0 : W5.cell? ⟨wr.heap.size, 0, none⟩ = some (.string y.t) := by rw [HF5.out.2.at_]; rfl
        have g1 : W5.cell? ⟨wr.heap.size, 1, none⟩ = some (.string y.a) := by rw [HF5.out.2.at_]; rfl
        have g2 : W5.cell? ⟨wr.heap.size, 2, none⟩ = some (.int .i64 y.o) := by rw [HF5.out.2.at_]; rfl
        have g3 : W5.cell? ⟨wr.heap.size, 3, none⟩ = some (.int .i64 y.e) := by rw [HF5.out.2.at_]; rfl
        have g4 : W5.cell? ⟨wr.heap.size, 4, none⟩ = some (.int .i64 y.l) := by rw [HF5.out.2.at_]; rfl
        go_wp2_with (first
          | (at_builtin; refine wpList_pushL rfl _ _ 42 rfl (w.heap.size + 3) 71 (lseV lse0) 56 Tryd.underlying42 rlseInfo rfl (by omega) _ ((L.take k).filter (fun y => !p y)) y rfl ((HA.out.1.1.kept (only_of_below HF5.out.1 none) (own_or _)).kept (World.grownBy_alloc _ _ none) (own_or _)) W5.heap.size 1 rfl ?c3 ?c4 ?c5 ?_)
          | fail)
        case c3 => exact Whole.new rfl rfl
        case c4 => have h1 := List.length_filter_le (fun y => !p y) (L.take k); rw [List.length_take] at h1; have := HL.out; omega
        case c5 => have := HF5.out.1.size; have := HA.out.1.2.2.2.2.2.2.2; simp; omega
        intro v' W7 h7 hg7 hloc
        have HF7 := Lib.hid (show Sifting w W7 v' _ n tt l e (.slice (some ⟨gv, 0, none⟩) L.length c) x ((L.take (k + 1)).filter (fun y => !p y)) ((L.take (k + 1)).filter p) by
          have hq := (HA.out.1.quiet (HF5.out.1.alloc HF5.out.1.size (.cells (lseC y).toArray 71))).left h7 hg7 (by rw [World.size_alloc]; exact hloc)
          rw [HE.out.1, HE.out.2]
          exact hq)
        clear h7 hg7 hloc g0 g1 g2 g3 g4
        go_wp2_with fail
        go_roundg (L.length - (k + 1))
        case measure => have := HA.out.2; omega
        case rel => exact ⟨k + 1, by have := HA.out.2; omega, by go_num, HF7.out⟩
    · have hkl : k = L.length := by omega
      subst hkl
      have hr := HA.out.1
      rw [List.take_length] at hr
      obtain ⟨As, cs, hs⟩ := hr.1.lens
      subst hs
      have HR := Lib.hid hr
      have c4 : wr.cell? ⟨w.heap.size, 4, none⟩ = some (.slice A L.length c) := by rw [hr.2.2.2.2.1.at_]; rfl
      have d4 : wr.frozen? ⟨w.heap.size, 4, none⟩ = false := hr.2.2.2.2.1.free 4
      have c0 : wr.cell? ⟨w.heap.size, 0, none⟩ = some (.int .i64 n) := by rw [hr.2.2.2.2.1.at_]; rfl
      have c1 : wr.cell? ⟨w.heap.size, 1, none⟩ = some (.int .i64 tt) := by rw [hr.2.2.2.2.1.at_]; rfl
      have c2 : wr.cell? ⟨w.heap.size, 2, none⟩ = some (.int .i64 l) := by rw [hr.2.2.2.2.1.at_]; rfl
      have c3 : wr.cell? ⟨w.heap.size, 3, none⟩ = some (.int .i64 e) := by rw [hr.2.2.2.2.1.at_]; rfl
      have k2 := hr.2.2.2.2.2.2.1
      have b0 := k2.at_ 0; have b1 := k2.at_ 1; have b2 := k2.at_ 2; have b3 := k2.at_ 3; have b4 := k2.at_ 4
      have f0 := k2.free 0; have f1 := k2.free 1; have f2 := k2.free 2; have f3 := k2.free 3; have f4 := k2.free 4
      simp only [refC, List.getElem?_toArray, List.getElem?_cons_zero, List.getElem?_cons_succ] at b0 b1 b2 b3 b4
      generalize hN : (L.filter fun y => !p y).length = N at HR hr HA ⊢
      clear hr hgk k2
      go_wp2_with fail
      have hs1 := only_stored (w := wr) (g := w.heap.size) ⟨w.heap.size, 4, none⟩ rfl (.slice As N cs)
      have hH := storedT (HR.out.2.2.2.2.2.2.1.only hs1 (ne_some (by omega))) n tt l e (.slice As N cs)
      have hs2 := onlyT (wr.setCell ⟨w.heap.size, 4, none⟩ (.slice As N cs)) (w.heap.size + 2) n tt l e (.slice As N cs)
      have hlo := (HR.out.1.kept hs1 (.inr (fun e => by have := (HR.out.1.lt _ e).1; omega))).kept hs2 (.inr (fun e => by have := (HR.out.1.lt _ e).1; omega))
      have hgo := (HR.out.2.1.kept hs1 (.inr (fun e => by have := (HR.out.2.1.lt _ e).1; omega))).kept hs2 (.inr (fun e => by have := (HR.out.2.1.lt _ e).1; omega))
      have hbb := (HR.out.2.2.2.1.grown hs1 HR.out.2.2.2.1.size (fun k hk => by injection hk with hk; omega)).grown hs2 (Nat.le_trans HR.out.2.2.2.1.size hs1.size) (fun k hk => by injection hk with hk; omega)
      exact bodyPost_ret_by (results_row_tmp (p := 8) (u := 9) rfl _ _ (w.heap.size + 2) 44 (refC n tt l e (.slice As N cs)) (0, 0) _ rfl hH Tryd.underlying44 rfl (by kernel_rfl)) rfl ⟨.slice As N cs, _, rfl, hlo.less (by omega), hgo.less (by omega), hbb⟩
set_option maxRecDepth 100000 in
set_option maxHeartbeats 8000000 in
theorem rsift1_calls (n tt l e : Int) (B : Nat) (v : Value) (L : List Lse) (hL : L.length ≤ 100000) (hl : ∀ x ∈ L, 0 ≤ x.l ∧ x.l ≤ 1099511627776) (x : Lse) (m : Int) (w : World) (h : Lows w B 71 v L) :
    Calls Tryd.prog 29 #[refV n tt l e v, .int .i64 1, .agg (lseC x).toArray, .int .i64 m] w fun en w' => ∃ v' g', en = .returned (.tuple #[refV n tt l e v', g']) ∧ Lows w' w.heap.size 71 v' (L.filter fun y => !(isOver l (tickI m)) y) ∧ Lows w' w.heap.size 71 g' (L.filter (isOver l (tickI m))) ∧ Below w.heap.size w w' := by
  obtain ⟨A, c, rfl⟩ := h.lens
  have hm : (L.length : Int) ≤ 100000 := by omega
  have H := Lib.hid h
  have HL := Lib.hid hL
  have HLA := Lib.hid hl
  obtain ⟨tk, htk⟩ : ∃ tk, tk = tickI m := ⟨_, rfl⟩
  have HTC := Lib.hid (show ∀ W, Calls Tryd.prog 40 #[.int .i64 m] W fun e w' => e = .returned (.int .i64 tk) ∧ w' = W from fun W => by rw [htk]; exact rtick_calls m W)
  have htb : 0 ≤ tk ∧ tk ≤ 1099511627776 := by rw [htk]; exact tickI_bd m
  have htb1 := htb.1
  have htb2 := htb.2
  rw [← htk]
  clear htk htb hl
  obtain ⟨p, hp⟩ : ∃ p : Lse → Bool, p = (isOver l tk) := ⟨_, rfl⟩
  rw [show (fun y => !(isOver l tk) y) = (fun y => !p y) by rw [hp], ← hp]
  have HP := Lib.hid hp
  clear h hL hp
  unfold refV lseC
  go_enter Tryd.func29, Tryd.ntmps29
  go_wp2_with fail
  go_loopg [10, 11, 22] L.length (fun gq s u i wr => ∃ k : Nat, gq + k = L.length ∧ i = .int .i64 k ∧ Sifting w wr s u n tt l e (.slice A L.length c) x ((L.take k).filter (fun y => !p y)) ((L.take k).filter p))
  case atStart =>
    have a1 : Whole (w.alloc (.cells (refC n tt l e (.slice A L.length c)) 44)) w.heap.size 44 (refC n tt l e (.slice A L.length c)) := Whole.new rfl rfl
    have a2 : Whole ((w.alloc (.cells (refC n tt l e (.slice A L.length c)) 44)).alloc (.cells (lseC x).toArray 71)) (w.heap.size + 1) 71 (lseC x).toArray := Whole.new (by simp) rfl
    have a3 : Whole (((w.alloc (.cells (refC n tt l e (.slice A L.length c)) 44)).alloc (.cells (lseC x).toArray 71)).alloc (.cells (refC 0 0 0 0 (.slice none 0 0)) 44)) (w.heap.size + 2) 44 (refC 0 0 0 0 (.slice none 0 0)) := Whole.new (by simp) rfl
    have a4 := Lows.empty (w := ((w.alloc (.cells (refC n tt l e (.slice A L.length c)) 44)).alloc (.cells (lseC x).toArray 71)).alloc (.cells (refC 0 0 0 0 (.slice none 0 0)) 44)) (B := w.heap.size + 3) (T := 71) (by simp)
    have a5 := Lows.empty (w := (((w.alloc (.cells (refC n tt l e (.slice A L.length c)) 44)).alloc (.cells (lseC x).toArray 71)).alloc (.cells (refC 0 0 0 0 (.slice none 0 0)) 44)).alloc (.cells #[] 71)) (B := w.heap.size + 3) (T := 71) (by simp)
    have a6 := a4.kept (World.grownBy_alloc _ (.cells #[] 71) none) (own_or _)
    simp only [World.size_alloc] at a5 a6
    exact ⟨0, rfl, rfl, a6, a5, (fun q hq => by simp [Value.ownBlock] at hq ⊢; omega), by go_grown, (((a1.alloc _).alloc _).alloc _).alloc _, ((a2.alloc _).alloc _).alloc _, (a3.alloc _).alloc _, by simp⟩
  case round =>
    obtain ⟨k, hgk, rfl, hsi⟩ := hrel
    have HA := Lib.hid (And.intro hsi hgk)
    clear hsi
    by_cases hlt : k < L.length
    · obtain ⟨y, hy⟩ : ∃ y, L[k]? = some y := ⟨L[k], List.getElem?_eq_getElem hlt⟩
      obtain ⟨gv, cap2, hv, _, _, hcell⟩ := (H.out.rest HA.out.1.2.2.2.1).at_ hy
      injection hv with hv1 hv2 hv3
      subst hv1; subst hv3
      have f0 : wr.cell? ⟨gv, k * 5, none⟩ = some (.string y.t) := (hcell 0 _ rfl).1
      have f1 : wr.cell? ⟨gv, k * 5 + 1, none⟩ = some (.string y.a) := (hcell 1 _ rfl).1
      have f2 : wr.cell? ⟨gv, k * 5 + 2, none⟩ = some (.int .i64 y.o) := (hcell 2 _ rfl).1
      have f3 : wr.cell? ⟨gv, k * 5 + 3, none⟩ = some (.int .i64 y.e) := (hcell 3 _ rfl).1
      have f4 : wr.cell? ⟨gv, k * 5 + 4, none⟩ = some (.int .i64 y.l) := (hcell 4 _ rfl).1
      have HY := Lib.hid hy
      have hym : y ∈ L := List.mem_of_getElem? hy
      have hqi : (k : Int) < L.length := by omega
      clear hy hcell hv2 hgk
      by_cases hp : l ≤ tk - y.l
      · have HPY := Lib.hid (show p y = true by rw [HP.out]; unfold isOver; simp [hp])
        have HE := Lib.hid (sifted_yes HY.out HPY.out)
        have life : wr.cell? ⟨w.heap.size, 2, none⟩ = some (.int .i64 l) := by rw [HA.out.1.2.2.2.2.1.at_]; rfl
        have life2 : (wr.alloc (.cells (lseC y).toArray 71)).cell? ⟨w.heap.size, 2, none⟩ = some (.int .i64 l) := (World.cell?_alloc_lt wr _ _ (block_lt_of_cell life)).trans life
        unfold lseC at life2
        have hyl1 := (HLA.out y hym).1
        have hyl2 := (HLA.out y hym).2
        have hsub : IntKind.i64.wrap (tk - y.l) = tk - y.l := by simp [IntKind.wrap_i64]; omega
        go_upto_region 7 with fail
        go_quiet ((go_at_call 40; exact Calls.quiet_of_same (HTC.out _)))
        go_upto_region 8 with fail
        refine name_wp (fun W => Below wr.heap.size wr W ∧ Whole W wr.heap.size 71 (lseC y).toArray) ⟨below_drawnN ((Below.refl _ _).alloc (Nat.le_refl _) _) _, (Whole.new rfl rfl).drewN _⟩ ?_
        intro W5 hF5
        have HF5 := Lib.hid hF5
        clear hF5 f0 f1 f2 f3 f4 life life2 hyl1 hyl2 hsub
        have g0 : W5.cell? ⟨wr.heap.size, 0, none⟩ = some (.string y.t) := by rw [HF5.out.2.at_]; rfl
        have g1 : W5.cell? ⟨wr.heap.size, 1, none⟩ = some (.string y.a) := by rw [HF5.out.2.at_]; rfl
        have g2 : W5.cell? ⟨wr.heap.size, 2, none⟩ = some (.int .i64 y.o) := by rw [HF5.out.2.at_]; rfl
        have g3 : W5.cell? ⟨wr.heap.size, 3, none⟩ = some (.int .i64 y.e) := by rw [HF5.out.2.at_]; rfl
        have g4 : W5.cell? ⟨wr.heap.size, 4, none⟩ = some (.int .i64 y.l) := by rw [HF5.out.2.at_]; rfl
        go_wp2_with (first
          | (at_builtin; refine wpList_pushL rfl _ _ 42 rfl (w.heap.size + 3) 71 (lseV lse0) 56 Tryd.underlying42 rlseInfo rfl (by omega) _ ((L.take k).filter p) y rfl ((HA.out.1.2.1.kept (only_of_below HF5.out.1 none) (own_or _)).kept (World.grownBy_alloc _ _ none) (own_or _)) W5.heap.size 1 rfl ?c3 ?c4 ?c5 ?_)
          | fail)
        case c3 => exact Whole.new rfl rfl
        case c4 => have h1 := List.length_filter_le p (L.take k); rw [List.length_take] at h1; have := HL.out; omega
        case c5 => have := HF5.out.1.size; have := HA.out.1.2.2.2.2.2.2.2; simp; omega
        intro v' W7 h7 hg7 hloc
        have HF7 := Lib.hid (show Sifting w W7 _ v' n tt l e (.slice (some ⟨gv, 0, none⟩) L.length c) x ((L.take (k + 1)).filter (fun y => !p y)) ((L.take (k + 1)).filter p) by
          have hq := (HA.out.1.quiet (HF5.out.1.alloc HF5.out.1.size (.cells (lseC y).toArray 71))).gone h7 hg7 (by rw [World.size_alloc]; exact hloc)
          rw [HE.out.1, HE.out.2]
          exact hq)
        clear h7 hg7 hloc g0 g1 g2 g3 g4
        go_wp2_with fail
        go_roundg (L.length - (k + 1))
        case measure => have := HA.out.2; omega
        case rel => exact ⟨k + 1, by have := HA.out.2; omega, by go_num, HF7.out⟩
      · have HPY := Lib.hid (show p y = false by rw [HP.out]; unfold isOver; simp; omega)
        have HE := Lib.hid (sifted_no HY.out HPY.out)
        have life : wr.cell? ⟨w.heap.size, 2, none⟩ = some (.int .i64 l) := by rw [HA.out.1.2.2.2.2.1.at_]; rfl
        have life2 : (wr.alloc (.cells (lseC y).toArray 71)).cell? ⟨w.heap.size, 2, none⟩ = some (.int .i64 l) := (World.cell?_alloc_lt wr _ _ (block_lt_of_cell life)).trans life
        unfold lseC at life2
        have hyl1 := (HLA.out y hym).1
        have hyl2 := (HLA.out y hym).2
        have hsub : IntKind.i64.wrap (tk - y.l) = tk - y.l := by simp [IntKind.wrap_i64]; omega
        go_upto_region 7 with fail
        go_quiet ((go_at_call 40; exact Calls.quiet_of_same (HTC.out _)))
        go_upto_region 8 with fail
        refine name_wp (fun W => Below wr.heap.size wr W ∧ Whole W wr.heap.size 71 (lseC y).toArray) ⟨below_drawnN ((Below.refl _ _).alloc (Nat.le_refl _) _) _, (Whole.new rfl rfl).drewN _⟩ ?_
        intro W5 hF5
        have HF5 := Lib.hid hF5
        clear hF5 f0 f1 f2 f3 f4 life life2 hyl1 hyl2 hsub
        have g0 : W5.cell? ⟨wr.heap.size, 0, none⟩ = some (.string y.t) := by rw [HF5.out.2.at_]; rfl
        have g1 : W5.cell? ⟨wr.heap.size, 1, none⟩ = some (.string y.a) := by rw [HF5.out.2.at_]; rfl
        have g2 : W5.cell? ⟨wr.heap.size, 2, none⟩ = some (.int .i64 y.o) := by rw [HF5.out.2.at_]; rfl
        have g3 : W5.cell? ⟨wr.heap.size, 3, none⟩ = some (.int .i64 y.e) := by rw [HF5.out.2.at_]; rfl
        have g4 : W5.cell? ⟨wr.heap.size, 4, none⟩ = some (.int .i64 y.l) := by rw [HF5.out.2.at_]; rfl
        go_wp2_with (first
          | (at_builtin; refine wpList_pushL rfl _ _ 42 rfl (w.heap.size + 3) 71 (lseV lse0) 56 Tryd.underlying42 rlseInfo rfl (by omega) _ ((L.take k).filter (fun y => !p y)) y rfl ((HA.out.1.1.kept (only_of_below HF5.out.1 none) (own_or _)).kept (World.grownBy_alloc _ _ none) (own_or _)) W5.heap.size 1 rfl ?c3 ?c4 ?c5 ?_)
          | fail)
        case c3 => exact Whole.new rfl rfl
        case c4 => have h1 := List.length_filter_le (fun y => !p y) (L.take k); rw [List.length_take] at h1; have := HL.out; omega
        case c5 => have := HF5.out.1.size; have := HA.out.1.2.2.2.2.2.2.2; simp; omega
        intro v' W7 h7 hg7 hloc
        have HF7 := Lib.hid (show Sifting w W7 v' _ n tt l e (.slice (some ⟨gv, 0, none⟩) L.length c) x ((L.take (k + 1)).filter (fun y => !p y)) ((L.take (k + 1)).filter p) by
          have hq := (HA.out.1.quiet (HF5.out.1.alloc HF5.out.1.size (.cells (lseC y).toArray 71))).left h7 hg7 (by rw [World.size_alloc]; exact hloc)
          rw [HE.out.1, HE.out.2]
          exact hq)
        clear h7 hg7 hloc g0 g1 g2 g3 g4
        go_wp2_with fail
        go_roundg (L.length - (k + 1))
        case measure => have := HA.out.2; omega
        case rel => exact ⟨k + 1, by have := HA.out.2; omega, by go_num, HF7.out⟩
    · have hkl : k = L.length := by omega
      subst hkl
      have hr := HA.out.1
      rw [List.take_length] at hr
      obtain ⟨As, cs, hs⟩ := hr.1.lens
      subst hs
      have HR := Lib.hid hr
      have c4 : wr.cell? ⟨w.heap.size, 4, none⟩ = some (.slice A L.length c) := by rw [hr.2.2.2.2.1.at_]; rfl
      have d4 : wr.frozen? ⟨w.heap.size, 4, none⟩ = false := hr.2.2.2.2.1.free 4
      have c0 : wr.cell? ⟨w.heap.size, 0, none⟩ = some (.int .i64 n) := by rw [hr.2.2.2.2.1.at_]; rfl
      have c1 : wr.cell? ⟨w.heap.size, 1, none⟩ = some (.int .i64 tt) := by rw [hr.2.2.2.2.1.at_]; rfl
      have c2 : wr.cell? ⟨w.heap.size, 2, none⟩ = some (.int .i64 l) := by rw [hr.2.2.2.2.1.at_]; rfl
      have c3 : wr.cell? ⟨w.heap.size, 3, none⟩ = some (.int .i64 e) := by rw [hr.2.2.2.2.1.at_]; rfl
      have k2 := hr.2.2.2.2.2.2.1
      have b0 := k2.at_ 0; have b1 := k2.at_ 1; have b2 := k2.at_ 2; have b3 := k2.at_ 3; have b4 := k2.at_ 4
      have f0 := k2.free 0; have f1 := k2.free 1; have f2 := k2.free 2; have f3 := k2.free 3; have f4 := k2.free 4
      simp only [refC, List.getElem?_toArray, List.getElem?_cons_zero, List.getElem?_cons_succ] at b0 b1 b2 b3 b4
      generalize hN : (L.filter fun y => !p y).length = N at HR hr HA ⊢
      clear hr hgk k2
      go_wp2_with fail
      have hs1 := only_stored (w := wr) (g := w.heap.size) ⟨w.heap.size, 4, none⟩ rfl (.slice As N cs)
      have hH := storedT (HR.out.2.2.2.2.2.2.1.only hs1 (ne_some (by omega))) n tt l e (.slice As N cs)
      have hs2 := onlyT (wr.setCell ⟨w.heap.size, 4, none⟩ (.slice As N cs)) (w.heap.size + 2) n tt l e (.slice As N cs)
      have hlo := (HR.out.1.kept hs1 (.inr (fun e => by have := (HR.out.1.lt _ e).1; omega))).kept hs2 (.inr (fun e => by have := (HR.out.1.lt _ e).1; omega))
      have hgo := (HR.out.2.1.kept hs1 (.inr (fun e => by have := (HR.out.2.1.lt _ e).1; omega))).kept hs2 (.inr (fun e => by have := (HR.out.2.1.lt _ e).1; omega))
      have hbb := (HR.out.2.2.2.1.grown hs1 HR.out.2.2.2.1.size (fun k hk => by injection hk with hk; omega)).grown hs2 (Nat.le_trans HR.out.2.2.2.1.size hs1.size) (fun k hk => by injection hk with hk; omega)
      exact bodyPost_ret_by (results_row_tmp (p := 8) (u := 9) rfl _ _ (w.heap.size + 2) 44 (refC n tt l e (.slice As N cs)) (0, 0) _ rfl hH Tryd.underlying44 rfl (by kernel_rfl)) rfl ⟨.slice As N cs, _, rfl, hlo.less (by omega), hgo.less (by omega), hbb⟩
set_option maxRecDepth 100000 in
set_option maxHeartbeats 8000000 in
theorem rsift2_calls (n tt l e : Int) (B : Nat) (v : Value) (L : List Lse) (hL : L.length ≤ 100000) (x : Lse) (m : Int) (w : World) (h : Lows w B 71 v L) :
    Calls Tryd.prog 29 #[refV n tt l e v, .int .i64 2, .agg (lseC x).toArray, .int .i64 m] w fun en w' => ∃ v' g', en = .returned (.tuple #[refV n tt l e v', g']) ∧ Lows w' w.heap.size 71 v' (L.filter fun y => !(isIt x) y) ∧ Lows w' w.heap.size 71 g' (L.filter (isIt x)) ∧ Below w.heap.size w w' := by
  obtain ⟨A, c, rfl⟩ := h.lens
  have hm : (L.length : Int) ≤ 100000 := by omega
  have H := Lib.hid h
  have HL := Lib.hid hL
  obtain ⟨p, hp⟩ : ∃ p : Lse → Bool, p = (isIt x) := ⟨_, rfl⟩
  rw [show (fun y => !(isIt x) y) = (fun y => !p y) by rw [hp], ← hp]
  have HP := Lib.hid hp
  clear h hL hp
  unfold refV lseC
  go_enter Tryd.func29, Tryd.ntmps29
  go_wp2_with fail
  go_loopg [10, 11, 22] L.length (fun gq s u i wr => ∃ k : Nat, gq + k = L.length ∧ i = .int .i64 k ∧ Sifting w wr s u n tt l e (.slice A L.length c) x ((L.take k).filter (fun y => !p y)) ((L.take k).filter p))
  case atStart =>
    have a1 : Whole (w.alloc (.cells (refC n tt l e (.slice A L.length c)) 44)) w.heap.size 44 (refC n tt l e (.slice A L.length c)) := Whole.new rfl rfl
    have a2 : Whole ((w.alloc (.cells (refC n tt l e (.slice A L.length c)) 44)).alloc (.cells (lseC x).toArray 71)) (w.heap.size + 1) 71 (lseC x).toArray := Whole.new (by simp) rfl
    have a3 : Whole (((w.alloc (.cells (refC n tt l e (.slice A L.length c)) 44)).alloc (.cells (lseC x).toArray 71)).alloc (.cells (refC 0 0 0 0 (.slice none 0 0)) 44)) (w.heap.size + 2) 44 (refC 0 0 0 0 (.slice none 0 0)) := Whole.new (by simp) rfl
    have a4 := Lows.empty (w := ((w.alloc (.cells (refC n tt l e (.slice A L.length c)) 44)).alloc (.cells (lseC x).toArray 71)).alloc (.cells (refC 0 0 0 0 (.slice none 0 0)) 44)) (B := w.heap.size + 3) (T := 71) (by simp)
    have a5 := Lows.empty (w := (((w.alloc (.cells (refC n tt l e (.slice A L.length c)) 44)).alloc (.cells (lseC x).toArray 71)).alloc (.cells (refC 0 0 0 0 (.slice none 0 0)) 44)).alloc (.cells #[] 71)) (B := w.heap.size + 3) (T := 71) (by simp)
    have a6 := a4.kept (World.grownBy_alloc _ (.cells #[] 71) none) (own_or _)
    simp only [World.size_alloc] at a5 a6
    exact ⟨0, rfl, rfl, a6, a5, (fun q hq => by simp [Value.ownBlock] at hq ⊢; omega), by go_grown, (((a1.alloc _).alloc _).alloc _).alloc _, ((a2.alloc _).alloc _).alloc _, (a3.alloc _).alloc _, by simp⟩
  case round =>
    obtain ⟨k, hgk, rfl, hsi⟩ := hrel
    have HA := Lib.hid (And.intro hsi hgk)
    clear hsi
    by_cases hlt : k < L.length
    · obtain ⟨y, hy⟩ : ∃ y, L[k]? = some y := ⟨L[k], List.getElem?_eq_getElem hlt⟩
      obtain ⟨gv, cap2, hv, _, _, hcell⟩ := (H.out.rest HA.out.1.2.2.2.1).at_ hy
      injection hv with hv1 hv2 hv3
      subst hv1; subst hv3
      have f0 : wr.cell? ⟨gv, k * 5, none⟩ = some (.string y.t) := (hcell 0 _ rfl).1
      have f1 : wr.cell? ⟨gv, k * 5 + 1, none⟩ = some (.string y.a) := (hcell 1 _ rfl).1
      have f2 : wr.cell? ⟨gv, k * 5 + 2, none⟩ = some (.int .i64 y.o) := (hcell 2 _ rfl).1
      have f3 : wr.cell? ⟨gv, k * 5 + 3, none⟩ = some (.int .i64 y.e) := (hcell 3 _ rfl).1
      have f4 : wr.cell? ⟨gv, k * 5 + 4, none⟩ = some (.int .i64 y.l) := (hcell 4 _ rfl).1
      have HY := Lib.hid hy
      have hym : y ∈ L := List.mem_of_getElem? hy
      have hqi : (k : Int) < L.length := by omega
      clear hy hcell hv2 hgk
      by_cases hp1 : y.o = x.o
      · have hb1 : (y.o == x.o) = true := by simp [hp1]
        by_cases hp2 : y.t = x.t
        · have hb2 : (y.t.toList == x.t.toList) = true := by rw [hp2]; simp
          by_cases hp3 : y.a = x.a
          · have hb3 : (y.a.toList == x.a.toList) = true := by rw [hp3]; simp
            have HPY := Lib.hid (show p y = true by rw [HP.out]; unfold isIt; simp [hp1, hp2, hp3])
            clear hp1 hp2 hp3
            have HE := Lib.hid (sifted_yes HY.out HPY.out)
            go_upto_region 7 with fail
            go_quiet (fail)
            go_upto_region 8 with fail
            refine name_wp (fun W => Below wr.heap.size wr W ∧ Whole W wr.heap.size 71 (lseC y).toArray) ⟨below_drawnN ((Below.refl _ _).alloc (Nat.le_refl _) _) _, (Whole.new rfl rfl).drewN _⟩ ?_
            intro W5 hF5
            have HF5 := Lib.hid hF5
            clear hF5 f0 f1 f2 f3 f4
            have g0 : W5.cell? ⟨wr.heap.size, 0, none⟩ = some (.string y.t) := by rw [HF5.out.2.at_]; rfl
            have g1 : W5.cell? ⟨wr.heap.size, 1, none⟩ = some (.string y.a) := by rw [HF5.out.2.at_]; rfl
            have g2 : W5.cell? ⟨wr.heap.size, 2, none⟩ = some (.int .i64 y.o) := by rw [HF5.out.2.at_]; rfl
            have g3 : W5.cell? ⟨wr.heap.size, 3, none⟩ = some (.int .i64 y.e) := by rw [HF5.out.2.at_]; rfl
            have g4 : W5.cell? ⟨wr.heap.size, 4, none⟩ = some (.int .i64 y.l) := by rw [HF5.out.2.at_]; rfl
            have x0 : W5.cell? ⟨w.heap.size + 1, 0, none⟩ = some (.string x.t) := by rw [(HA.out.1.quiet HF5.out.1).2.2.2.2.2.1.at_]; rfl
            have x1 : W5.cell? ⟨w.heap.size + 1, 1, none⟩ = some (.string x.a) := by rw [(HA.out.1.quiet HF5.out.1).2.2.2.2.2.1.at_]; rfl
            have x2 : W5.cell? ⟨w.heap.size + 1, 2, none⟩ = some (.int .i64 x.o) := by rw [(HA.out.1.quiet HF5.out.1).2.2.2.2.2.1.at_]; rfl
            go_wp2_with (first
              | (at_builtin; refine wpList_pushL rfl _ _ 42 rfl (w.heap.size + 3) 71 (lseV lse0) 56 Tryd.underlying42 rlseInfo rfl (by omega) _ ((L.take k).filter p) y rfl ((HA.out.1.2.1.kept (only_of_below HF5.out.1 none) (own_or _)).kept (World.grownBy_alloc _ _ none) (own_or _)) W5.heap.size 1 rfl ?c3 ?c4 ?c5 ?_)
              | fail)
            case c3 => exact Whole.new rfl rfl
            case c4 => have h1 := List.length_filter_le p (L.take k); rw [List.length_take] at h1; have := HL.out; omega
            case c5 => have := HF5.out.1.size; have := HA.out.1.2.2.2.2.2.2.2; simp; omega
            intro v' W7 h7 hg7 hloc
            have HF7 := Lib.hid (show Sifting w W7 _ v' n tt l e (.slice (some ⟨gv, 0, none⟩) L.length c) x ((L.take (k + 1)).filter (fun y => !p y)) ((L.take (k + 1)).filter p) by
              have hq := (HA.out.1.quiet (HF5.out.1.alloc HF5.out.1.size (.cells (lseC y).toArray 71))).gone h7 hg7 (by rw [World.size_alloc]; exact hloc)
              rw [HE.out.1, HE.out.2]
              exact hq)
            clear h7 hg7 hloc g0 g1 g2 g3 g4
            go_wp2_with fail
            go_roundg (L.length - (k + 1))
            case measure => have := HA.out.2; omega
            case rel => exact ⟨k + 1, by have := HA.out.2; omega, by go_num, HF7.out⟩
          · have hb3 : (y.a.toList == x.a.toList) = false := str_ne hp3
            have HPY := Lib.hid (show p y = false by rw [HP.out]; unfold isIt; simp [hp3])
            clear hp1 hp2 hp3
            have HE := Lib.hid (sifted_no HY.out HPY.out)
            go_upto_region 7 with fail
            go_quiet (fail)
            go_upto_region 8 with fail
            refine name_wp (fun W => Below wr.heap.size wr W ∧ Whole W wr.heap.size 71 (lseC y).toArray) ⟨below_drawnN ((Below.refl _ _).alloc (Nat.le_refl _) _) _, (Whole.new rfl rfl).drewN _⟩ ?_
            intro W5 hF5
            have HF5 := Lib.hid hF5
            clear hF5 f0 f1 f2 f3 f4
            have g0 : W5.cell? ⟨wr.heap.size, 0, none⟩ = some (.string y.t) := by rw [HF5.out.2.at_]; rfl
            have g1 : W5.cell? ⟨wr.heap.size, 1, none⟩ = some (.string y.a) := by rw [HF5.out.2.at_]; rfl
            have g2 : W5.cell? ⟨wr.heap.size, 2, none⟩ = some (.int .i64 y.o) := by rw [HF5.out.2.at_]; rfl
            have g3 : W5.cell? ⟨wr.heap.size, 3, none⟩ = some (.int .i64 y.e) := by rw [HF5.out.2.at_]; rfl
            have g4 : W5.cell? ⟨wr.heap.size, 4, none⟩ = some (.int .i64 y.l) := by rw [HF5.out.2.at_]; rfl
            have x0 : W5.cell? ⟨w.heap.size + 1, 0, none⟩ = some (.string x.t) := by rw [(HA.out.1.quiet HF5.out.1).2.2.2.2.2.1.at_]; rfl
            have x1 : W5.cell? ⟨w.heap.size + 1, 1, none⟩ = some (.string x.a) := by rw [(HA.out.1.quiet HF5.out.1).2.2.2.2.2.1.at_]; rfl
            have x2 : W5.cell? ⟨w.heap.size + 1, 2, none⟩ = some (.int .i64 x.o) := by rw [(HA.out.1.quiet HF5.out.1).2.2.2.2.2.1.at_]; rfl
            go_wp2_with (first
              | (at_builtin; refine wpList_pushL rfl _ _ 42 rfl (w.heap.size + 3) 71 (lseV lse0) 56 Tryd.underlying42 rlseInfo rfl (by omega) _ ((L.take k).filter (fun y => !p y)) y rfl ((HA.out.1.1.kept (only_of_below HF5.out.1 none) (own_or _)).kept (World.grownBy_alloc _ _ none) (own_or _)) W5.heap.size 1 rfl ?c3 ?c4 ?c5 ?_)
              | fail)
            case c3 => exact Whole.new rfl rfl
            case c4 => have h1 := List.length_filter_le (fun y => !p y) (L.take k); rw [List.length_take] at h1; have := HL.out; omega
            case c5 => have := HF5.out.1.size; have := HA.out.1.2.2.2.2.2.2.2; simp; omega
            intro v' W7 h7 hg7 hloc
            have HF7 := Lib.hid (show Sifting w W7 v' _ n tt l e (.slice (some ⟨gv, 0, none⟩) L.length c) x ((L.take (k + 1)).filter (fun y => !p y)) ((L.take (k + 1)).filter p) by
              have hq := (HA.out.1.quiet (HF5.out.1.alloc HF5.out.1.size (.cells (lseC y).toArray 71))).left h7 hg7 (by rw [World.size_alloc]; exact hloc)
              rw [HE.out.1, HE.out.2]
              exact hq)
            clear h7 hg7 hloc g0 g1 g2 g3 g4
            go_wp2_with fail
            go_roundg (L.length - (k + 1))
            case measure => have := HA.out.2; omega
            case rel => exact ⟨k + 1, by have := HA.out.2; omega, by go_num, HF7.out⟩
        · have hb2 : (y.t.toList == x.t.toList) = false := str_ne hp2
          have HPY := Lib.hid (show p y = false by rw [HP.out]; unfold isIt; simp [hp2])
          clear hp1 hp2
          have HE := Lib.hid (sifted_no HY.out HPY.out)
          go_upto_region 7 with fail
          go_quiet (fail)
          go_upto_region 8 with fail
          refine name_wp (fun W => Below wr.heap.size wr W ∧ Whole W wr.heap.size 71 (lseC y).toArray) ⟨below_drawnN ((Below.refl _ _).alloc (Nat.le_refl _) _) _, (Whole.new rfl rfl).drewN _⟩ ?_
          intro W5 hF5
          have HF5 := Lib.hid hF5
          clear hF5 f0 f1 f2 f3 f4
          have g0 : W5.cell? ⟨wr.heap.size, 0, none⟩ = some (.string y.t) := by rw [HF5.out.2.at_]; rfl
          have g1 : W5.cell? ⟨wr.heap.size, 1, none⟩ = some (.string y.a) := by rw [HF5.out.2.at_]; rfl
          have g2 : W5.cell? ⟨wr.heap.size, 2, none⟩ = some (.int .i64 y.o) := by rw [HF5.out.2.at_]; rfl
          have g3 : W5.cell? ⟨wr.heap.size, 3, none⟩ = some (.int .i64 y.e) := by rw [HF5.out.2.at_]; rfl
          have g4 : W5.cell? ⟨wr.heap.size, 4, none⟩ = some (.int .i64 y.l) := by rw [HF5.out.2.at_]; rfl
          have x0 : W5.cell? ⟨w.heap.size + 1, 0, none⟩ = some (.string x.t) := by rw [(HA.out.1.quiet HF5.out.1).2.2.2.2.2.1.at_]; rfl
          have x1 : W5.cell? ⟨w.heap.size + 1, 1, none⟩ = some (.string x.a) := by rw [(HA.out.1.quiet HF5.out.1).2.2.2.2.2.1.at_]; rfl
          have x2 : W5.cell? ⟨w.heap.size + 1, 2, none⟩ = some (.int .i64 x.o) := by rw [(HA.out.1.quiet HF5.out.1).2.2.2.2.2.1.at_]; rfl
          go_wp2_with (first
            | (at_builtin; refine wpList_pushL rfl _ _ 42 rfl (w.heap.size + 3) 71 (lseV lse0) 56 Tryd.underlying42 rlseInfo rfl (by omega) _ ((L.take k).filter (fun y => !p y)) y rfl ((HA.out.1.1.kept (only_of_below HF5.out.1 none) (own_or _)).kept (World.grownBy_alloc _ _ none) (own_or _)) W5.heap.size 1 rfl ?c3 ?c4 ?c5 ?_)
            | fail)
          case c3 => exact Whole.new rfl rfl
          case c4 => have h1 := List.length_filter_le (fun y => !p y) (L.take k); rw [List.length_take] at h1; have := HL.out; omega
          case c5 => have := HF5.out.1.size; have := HA.out.1.2.2.2.2.2.2.2; simp; omega
          intro v' W7 h7 hg7 hloc
          have HF7 := Lib.hid (show Sifting w W7 v' _ n tt l e (.slice (some ⟨gv, 0, none⟩) L.length c) x ((L.take (k + 1)).filter (fun y => !p y)) ((L.take (k + 1)).filter p) by
            have hq := (HA.out.1.quiet (HF5.out.1.alloc HF5.out.1.size (.cells (lseC y).toArray 71))).left h7 hg7 (by rw [World.size_alloc]; exact hloc)
            rw [HE.out.1, HE.out.2]
            exact hq)
          clear h7 hg7 hloc g0 g1 g2 g3 g4
          go_wp2_with fail
          go_roundg (L.length - (k + 1))
          case measure => have := HA.out.2; omega
          case rel => exact ⟨k + 1, by have := HA.out.2; omega, by go_num, HF7.out⟩
      · have hb1 : (y.o == x.o) = false := by simp [hp1]
        have HPY := Lib.hid (show p y = false by rw [HP.out]; unfold isIt; simp [hp1])
        clear hp1
        have HE := Lib.hid (sifted_no HY.out HPY.out)
        go_upto_region 7 with fail
        go_quiet (fail)
        go_upto_region 8 with fail
        refine name_wp (fun W => Below wr.heap.size wr W ∧ Whole W wr.heap.size 71 (lseC y).toArray) ⟨below_drawnN ((Below.refl _ _).alloc (Nat.le_refl _) _) _, (Whole.new rfl rfl).drewN _⟩ ?_
        intro W5 hF5
        have HF5 := Lib.hid hF5
        clear hF5 f0 f1 f2 f3 f4
        have g0 : W5.cell? ⟨wr.heap.size, 0, none⟩ = some (.string y.t) := by rw [HF5.out.2.at_]; rfl
        have g1 : W5.cell? ⟨wr.heap.size, 1, none⟩ = some (.string y.a) := by rw [HF5.out.2.at_]; rfl
        have g2 : W5.cell? ⟨wr.heap.size, 2, none⟩ = some (.int .i64 y.o) := by rw [HF5.out.2.at_]; rfl
        have g3 : W5.cell? ⟨wr.heap.size, 3, none⟩ = some (.int .i64 y.e) := by rw [HF5.out.2.at_]; rfl
        have g4 : W5.cell? ⟨wr.heap.size, 4, none⟩ = some (.int .i64 y.l) := by rw [HF5.out.2.at_]; rfl
        have x0 : W5.cell? ⟨w.heap.size + 1, 0, none⟩ = some (.string x.t) := by rw [(HA.out.1.quiet HF5.out.1).2.2.2.2.2.1.at_]; rfl
        have x1 : W5.cell? ⟨w.heap.size + 1, 1, none⟩ = some (.string x.a) := by rw [(HA.out.1.quiet HF5.out.1).2.2.2.2.2.1.at_]; rfl
        have x2 : W5.cell? ⟨w.heap.size + 1, 2, none⟩ = some (.int .i64 x.o) := by rw [(HA.out.1.quiet HF5.out.1).2.2.2.2.2.1.at_]; rfl
        go_wp2_with (first
          | (at_builtin; refine wpList_pushL rfl _ _ 42 rfl (w.heap.size + 3) 71 (lseV lse0) 56 Tryd.underlying42 rlseInfo rfl (by omega) _ ((L.take k).filter (fun y => !p y)) y rfl ((HA.out.1.1.kept (only_of_below HF5.out.1 none) (own_or _)).kept (World.grownBy_alloc _ _ none) (own_or _)) W5.heap.size 1 rfl ?c3 ?c4 ?c5 ?_)
          | fail)
        case c3 => exact Whole.new rfl rfl
        case c4 => have h1 := List.length_filter_le (fun y => !p y) (L.take k); rw [List.length_take] at h1; have := HL.out; omega
        case c5 => have := HF5.out.1.size; have := HA.out.1.2.2.2.2.2.2.2; simp; omega
        intro v' W7 h7 hg7 hloc
        have HF7 := Lib.hid (show Sifting w W7 v' _ n tt l e (.slice (some ⟨gv, 0, none⟩) L.length c) x ((L.take (k + 1)).filter (fun y => !p y)) ((L.take (k + 1)).filter p) by
          have hq := (HA.out.1.quiet (HF5.out.1.alloc HF5.out.1.size (.cells (lseC y).toArray 71))).left h7 hg7 (by rw [World.size_alloc]; exact hloc)
          rw [HE.out.1, HE.out.2]
          exact hq)
        clear h7 hg7 hloc g0 g1 g2 g3 g4
        go_wp2_with fail
        go_roundg (L.length - (k + 1))
        case measure => have := HA.out.2; omega
        case rel => exact ⟨k + 1, by have := HA.out.2; omega, by go_num, HF7.out⟩
    · have hkl : k = L.length := by omega
      subst hkl
      have hr := HA.out.1
      rw [List.take_length] at hr
      obtain ⟨As, cs, hs⟩ := hr.1.lens
      subst hs
      have HR := Lib.hid hr
      have c4 : wr.cell? ⟨w.heap.size, 4, none⟩ = some (.slice A L.length c) := by rw [hr.2.2.2.2.1.at_]; rfl
      have d4 : wr.frozen? ⟨w.heap.size, 4, none⟩ = false := hr.2.2.2.2.1.free 4
      have c0 : wr.cell? ⟨w.heap.size, 0, none⟩ = some (.int .i64 n) := by rw [hr.2.2.2.2.1.at_]; rfl
      have c1 : wr.cell? ⟨w.heap.size, 1, none⟩ = some (.int .i64 tt) := by rw [hr.2.2.2.2.1.at_]; rfl
      have c2 : wr.cell? ⟨w.heap.size, 2, none⟩ = some (.int .i64 l) := by rw [hr.2.2.2.2.1.at_]; rfl
      have c3 : wr.cell? ⟨w.heap.size, 3, none⟩ = some (.int .i64 e) := by rw [hr.2.2.2.2.1.at_]; rfl
      have k2 := hr.2.2.2.2.2.2.1
      have b0 := k2.at_ 0; have b1 := k2.at_ 1; have b2 := k2.at_ 2; have b3 := k2.at_ 3; have b4 := k2.at_ 4
      have f0 := k2.free 0; have f1 := k2.free 1; have f2 := k2.free 2; have f3 := k2.free 3; have f4 := k2.free 4
      simp only [refC, List.getElem?_toArray, List.getElem?_cons_zero, List.getElem?_cons_succ] at b0 b1 b2 b3 b4
      generalize hN : (L.filter fun y => !p y).length = N at HR hr HA ⊢
      clear hr hgk k2
      go_wp2_with fail
      have hs1 := only_stored (w := wr) (g := w.heap.size) ⟨w.heap.size, 4, none⟩ rfl (.slice As N cs)
      have hH := storedT (HR.out.2.2.2.2.2.2.1.only hs1 (ne_some (by omega))) n tt l e (.slice As N cs)
      have hs2 := onlyT (wr.setCell ⟨w.heap.size, 4, none⟩ (.slice As N cs)) (w.heap.size + 2) n tt l e (.slice As N cs)
      have hlo := (HR.out.1.kept hs1 (.inr (fun e => by have := (HR.out.1.lt _ e).1; omega))).kept hs2 (.inr (fun e => by have := (HR.out.1.lt _ e).1; omega))
      have hgo := (HR.out.2.1.kept hs1 (.inr (fun e => by have := (HR.out.2.1.lt _ e).1; omega))).kept hs2 (.inr (fun e => by have := (HR.out.2.1.lt _ e).1; omega))
      have hbb := (HR.out.2.2.2.1.grown hs1 HR.out.2.2.2.1.size (fun k hk => by injection hk with hk; omega)).grown hs2 (Nat.le_trans HR.out.2.2.2.1.size hs1.size) (fun k hk => by injection hk with hk; omega)
      exact bodyPost_ret_by (results_row_tmp (p := 8) (u := 9) rfl _ _ (w.heap.size + 2) 44 (refC n tt l e (.slice As N cs)) (0, 0) _ rfl hH Tryd.underlying44 rfl (by kernel_rfl)) rfl ⟨.slice As N cs, _, rfl, hlo.less (by omega), hgo.less (by omega), hbb⟩
end Go.Proofs.YtlkgdnmfgcmldaaDoor
