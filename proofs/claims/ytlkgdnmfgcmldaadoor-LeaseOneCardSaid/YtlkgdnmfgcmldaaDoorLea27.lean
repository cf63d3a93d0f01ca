/- The reference's table: Beat. -/
import Derived.Test.YtlkgdnmfgcmldaaDoorLea26
import Derived.Deep.RegionWith
import Derived.Deep.Cut
namespace Go.Proofs.YtlkgdnmfgcmldaaDoor
open Go.RowKit Go.Spk
set_option linter.unusedVariables false
theorem rlseInfo : (Tryd.prog.info? 71).map (fun i => (i.zero, i.size, i.bytes)) = some (some (lseV lse0), 5, 56) := by kernel_rfl
theorem Lows.empty {w : World} {B : Nat} {T : TypeId} (hB : B ≤ w.heap.size) : Lows (w.alloc (.cells #[] T)) B T (.slice (some ⟨w.heap.size, 0, none⟩) 0 0) [] :=
  ⟨rfl, .inr ⟨w.heap.size, 0, #[], rfl, hB, heap_alloc_new w _, Nat.le_refl _, Nat.zero_le _, rfl, rfl⟩⟩
/-- The cells of a reference's table. -/
def refC (n tt l e : Int) (v : Value) : Array Value := #[.int .i64 n, .int .i64 tt, .int .i64 l, .int .i64 e, v]
abbrev setT (W : World) (q : Nat) (n tt l e : Int) (v : Value) : World := ((((W.setCell ⟨q, 0, none⟩ (.int .i64 n)).setCell ⟨q, 1, none⟩ (.int .i64 tt)).setCell ⟨q, 2, none⟩ (.int .i64 l)).setCell ⟨q, 3, none⟩ (.int .i64 e)).setCell ⟨q, 4, none⟩ v
theorem storedT {W : World} {q : Nat} {T : TypeId} {n' tt' l' e' : Int} {v' : Value} (h : Whole W q T (refC n' tt' l' e' v')) (n tt l e : Int) (v : Value) : Whole (setT W q n tt l e v) q T (refC n tt l e v) :=
  ((((h.stored 0 (.int .i64 n)).stored 1 (.int .i64 tt)).stored 2 (.int .i64 l)).stored 3 (.int .i64 e)).stored 4 v
theorem onlyT (W : World) (q : Nat) (n tt l e : Int) (v : Value) : W.grownBy (setT W q n tt l e v) (some q) :=
  only_trans (only_trans (only_trans (only_trans (only_stored ⟨q, 0, none⟩ rfl _) (only_stored ⟨q, 1, none⟩ rfl _)) (only_stored ⟨q, 2, none⟩ rfl _)) (only_stored ⟨q, 3, none⟩ rfl _)) (only_stored ⟨q, 4, none⟩ rfl _)
set_option maxRecDepth 100000 in
set_option maxHeartbeats 4000000 in
theorem rbeat_calls (n tt l e : Int) (B : Nat) (v : Value) (L : List Lse) (hL : L.length ≤ 100000) (o now : Int) (w : World) (h : Lows w B 71 v L) :
    Calls Tryd.prog 30 #[refV n tt l e v, .int .i64 o, .int .i64 now] w fun en w' => ∃ v', en = .returned (.tuple #[refV n tt l e v', .int .i64 (ownN o L)]) ∧ Lows w' w.heap.size 71 v' (L.map (updL o (tickI now))) ∧ Below w.heap.size w w' := by
  obtain ⟨A, c, rfl⟩ := h.lens
  have hm : (L.length : Int) ≤ 100000 := by omega
  have H := Lib.hid h
  have HL := Lib.hid hL
  obtain ⟨tk, htk⟩ : ∃ tk, tk = tickI now := ⟨_, rfl⟩
  have HTC := Lib.hid (show ∀ W, Calls Tryd.prog 40 #[.int .i64 now] W fun e w' => e = .returned (.int .i64 tk) ∧ w' = W from fun W => by rw [htk]; exact rtick_calls now W)
  rw [← htk]
  clear htk h hL
  unfold refV
  go_enter Tryd.func30, Tryd.ntmps30
  go_wp2_with fail
  go_loopg [8, 9, 16] L.length (fun gq s u i wr => ∃ k : Nat, gq + k = L.length ∧ i = .int .i64 k ∧ u = .int .i64 (ownN o (L.take k)) ∧ Lows wr (w.heap.size + 2) 71 s ((L.map (updL o tk)).take k) ∧ Below w.heap.size w wr ∧ Whole wr w.heap.size 44 (refC n tt l e (.slice A L.length c)) ∧ Whole wr (w.heap.size + 1) 44 (refC 0 0 0 0 (.slice none 0 0)) ∧ w.heap.size + 2 ≤ wr.heap.size)
  case atStart =>
    have a1 : Whole (w.alloc (.cells (refC n tt l e (.slice A L.length c)) 44)) w.heap.size 44 (refC n tt l e (.slice A L.length c)) := Whole.new rfl rfl
    have a2 : Whole ((w.alloc (.cells (refC n tt l e (.slice A L.length c)) 44)).alloc (.cells (refC 0 0 0 0 (.slice none 0 0)) 44)) (w.heap.size + 1) 44 (refC 0 0 0 0 (.slice none 0 0)) := Whole.new (by simp) rfl
    have a3 := Lows.empty (w := (w.alloc (.cells (refC n tt l e (.slice A L.length c)) 44)).alloc (.cells (refC 0 0 0 0 (.slice none 0 0)) 44)) (B := w.heap.size + 2) (T := 71) (by simp)
    simp only [World.size_alloc] at a3
    exact ⟨0, rfl, rfl, rfl, a3, by go_grown, (a1.alloc _).alloc _, a2.alloc _, by simp⟩
  case round =>
    obtain ⟨k, hgk, rfl, rfl, hlo, hb, hw1, hw2, hsz⟩ := hrel
    have HA := Lib.hid (show Lows wr (w.heap.size + 2) 71 _ ((L.map (updL o tk)).take k) ∧ Below w.heap.size w wr ∧ Whole wr w.heap.size 44 (refC n tt l e (.slice A L.length c)) ∧ Whole wr (w.heap.size + 1) 44 (refC 0 0 0 0 (.slice none 0 0)) ∧ w.heap.size + 2 ≤ wr.heap.size ∧ _ from ⟨hlo, hb, hw1, hw2, hsz, hgk⟩)
    clear hlo hb hw1 hw2 hsz
    by_cases hlt : k < L.length
    · obtain ⟨y, hy⟩ : ∃ y, L[k]? = some y := ⟨L[k], List.getElem?_eq_getElem hlt⟩
      obtain ⟨gv, cap2, hv, _, _, hcell⟩ := (H.out.rest HA.out.2.1).at_ hy
      injection hv with hv1 hv2 hv3
      subst hv1; subst hv3
      have f0 : wr.cell? ⟨gv, k * 5, none⟩ = some (.string y.t) := (hcell 0 _ rfl).1
      have f1 : wr.cell? ⟨gv, k * 5 + 1, none⟩ = some (.string y.a) := (hcell 1 _ rfl).1
      have f2 : wr.cell? ⟨gv, k * 5 + 2, none⟩ = some (.int .i64 y.o) := (hcell 2 _ rfl).1
      have f3 : wr.cell? ⟨gv, k * 5 + 3, none⟩ = some (.int .i64 y.e) := (hcell 3 _ rfl).1
      have f4 : wr.cell? ⟨gv, k * 5 + 4, none⟩ = some (.int .i64 y.l) := (hcell 4 _ rfl).1
      have HY := Lib.hid hy
      have hqi : (k : Int) < L.length := by omega
      clear hy hcell hv2 hgk
      by_cases ho : y.o = o
      · have hob : (y.o == o) = true := by simp [ho]
        have HO := Lib.hid ho
        clear ho
        go_upto_region 7 with fail
        refine name_wp (fun W => Below wr.heap.size wr W ∧ Whole W wr.heap.size 71 (lseC y).toArray) ⟨(Below.refl _ _).alloc (Nat.le_refl _) _, Whole.new rfl rfl⟩ ?_
        intro W1 h1
        have H1 := Lib.hid h1
        have d4 : W1.cell? ⟨wr.heap.size, 4, none⟩ = some (.int .i64 y.l) := h1.2.at_ 4
        have d5 : W1.frozen? ⟨wr.heap.size, 4, none⟩ = false := h1.2.free 4
        obtain ⟨zl, hzl⟩ : ∃ zl, zl = max y.l tk := ⟨_, rfl⟩
        have HZL := Lib.hid hzl
        clear h1 f0 f1 f2 f3 f4 hzl
        go_region_with ((go_at_call 40; refine (HTC.out _).mono ?_; rintro e w' ⟨rfl, rfl⟩))
        all_goals
          clear d4 d5
          have hoc : (ownN o (L.take k) : Int) ≤ 100000 := by have := ownN_le o (L.take k); rw [List.length_take] at this; have := HL.out; omega
          go_upto_region 9 with fail
          clear hoc
          refine name_wp (fun W => Below wr.heap.size wr W ∧ Whole W wr.heap.size 71 (lseC ⟨y.t, y.a, y.o, y.e, zl⟩).toArray) ?_ ?_
          · have hs := only_drawn (only_stored (w := W1) (g := wr.heap.size) ⟨wr.heap.size, 4, none⟩ rfl (.int .i64 (max y.l tk)))
            exact ⟨H1.out.1.grown hs H1.out.1.size (fun k hk => by injection hk with hk; omega), by rw [HZL.out]; exact (H1.out.2.stored 4 _).drew⟩
          intro W5 hF5
          have HF5 := Lib.hid hF5
          obtain ⟨z, hz⟩ : ∃ z : Lse, (⟨y.t, y.a, y.o, y.e, zl⟩ : Lse) = z := ⟨_, rfl⟩
          have HZ := Lib.hid (show (⟨y.t, y.a, y.o, y.e, zl⟩ : Lse) = ⟨y.t, y.a, y.o, y.e, zl⟩ from rfl)
          clear hF5 hz z
          have g0 : W5.cell? ⟨wr.heap.size, 0, none⟩ = some (.string y.t) := by rw [HF5.out.2.at_]; rfl
          have g1 : W5.cell? ⟨wr.heap.size, 1, none⟩ = some (.string y.a) := by rw [HF5.out.2.at_]; rfl
          have g2 : W5.cell? ⟨wr.heap.size, 2, none⟩ = some (.int .i64 y.o) := by rw [HF5.out.2.at_]; rfl
          have g3 : W5.cell? ⟨wr.heap.size, 3, none⟩ = some (.int .i64 y.e) := by rw [HF5.out.2.at_]; rfl
          have g4 : W5.cell? ⟨wr.heap.size, 4, none⟩ = some (.int .i64 zl) := by rw [HF5.out.2.at_]; rfl
          have hoc : (ownN o (L.take k) : Int) ≤ 100000 := by have := ownN_le o (L.take k); rw [List.length_take] at this; have := HL.out; omega
          go_wp2_with (first
            | (at_builtin; refine wpList_pushL rfl _ _ 42 rfl (w.heap.size + 2) 71 (lseV lse0) 56 Tryd.underlying42 rlseInfo rfl (by omega) _ ((L.map (updL o tk)).take k) ⟨y.t, y.a, y.o, y.e, zl⟩ rfl ((HA.out.1.kept (only_of_below HF5.out.1 none) (own_or _)).kept (World.grownBy_alloc _ _ none) (own_or _)) W5.heap.size 1 rfl ?c3 ?c4 ?c5 ?_)
            | fail)
          case c3 => exact Whole.new rfl rfl
          case c4 => have := HL.out; first | omega | (simp; omega) | (rw [List.length_take, List.length_map]; omega)
          case c5 => have := HF5.out.1.size; have := HA.out.2.2.2.2.1; simp; omega
          intro v' W7 h7 hg7 hloc
          clear g0 g1 g2 g3 g4 hloc
          have HF7 := Lib.hid (show Lows W7 (w.heap.size + 2) 71 v' ((L.map (updL o tk)).take (k + 1)) ∧ Below w.heap.size w W7 ∧ Whole W7 w.heap.size 44 (refC n tt l e (.slice (some ⟨gv, 0, none⟩) L.length c)) ∧ Whole W7 (w.heap.size + 1) 44 (refC 0 0 0 0 (.slice none 0 0)) ∧ w.heap.size + 2 ≤ W7.heap.size by
            obtain ⟨q1, q2, q3, q4, q5, _⟩ := HA.out
            have hz := HZ.out
            have hb5 := HF5.out.1
            have hs5 := hb5.size
            have hlt := fun g hg => (q1.lt g hg).1
            have hs7 := hg7.size
            simp at hs7
            refine ⟨?_, ((q2.trans (hb5.mono q2.size)).alloc (by omega) _).grown hg7 (by simp; omega) (fun k hk => by have := hlt k hk; omega), ((q3.below hb5 q3.inside).alloc _).only hg7 (fun e => by have := hlt _ e.symm; omega), ((q4.below hb5 q4.inside).alloc _).only hg7 (fun e => by have := hlt _ e.symm; omega), by omega⟩
            rw [take_succ_of (y := ⟨y.t, y.a, y.o, y.e, zl⟩) (by rw [List.getElem?_map, HY.out]; exact congrArg some (show updL o tk y = _ from (by unfold updL; rw [if_pos HO.out, HZL.out])))]
            exact h7)
          clear h7 hg7 hoc
          go_wp2_with fail
          go_roundg (L.length - (k + 1))
          case measure => have := HA.out.2.2.2.2.2; omega
          case rel => exact ⟨k + 1, by have := HA.out.2.2.2.2.2; omega, by go_num, by rw [ownN_yes HY.out HO.out]; go_num, HF7.out⟩
      · have hob : (y.o == o) = false := by simp [ho]
        have HO := Lib.hid ho
        clear ho
        obtain ⟨zl, hzl⟩ : ∃ zl, zl = y.l := ⟨_, rfl⟩
        have HZL := Lib.hid hzl
        clear hzl
        go_upto_region 9 with fail
        refine name_wp (fun W => Below wr.heap.size wr W ∧ Whole W wr.heap.size 71 (lseC ⟨y.t, y.a, y.o, y.e, zl⟩).toArray) ⟨(Below.refl _ _).alloc (Nat.le_refl _) _, Whole.new rfl (by rw [HZL.out]; rfl)⟩ ?_
        intro W5 hF5
        have HF5 := Lib.hid hF5
        have HZ := Lib.hid (show (⟨y.t, y.a, y.o, y.e, zl⟩ : Lse) = ⟨y.t, y.a, y.o, y.e, zl⟩ from rfl)
        clear hF5 f0 f1 f2 f3 f4
        have g0 : W5.cell? ⟨wr.heap.size, 0, none⟩ = some (.string y.t) := by rw [HF5.out.2.at_]; rfl
        have g1 : W5.cell? ⟨wr.heap.size, 1, none⟩ = some (.string y.a) := by rw [HF5.out.2.at_]; rfl
        have g2 : W5.cell? ⟨wr.heap.size, 2, none⟩ = some (.int .i64 y.o) := by rw [HF5.out.2.at_]; rfl
        have g3 : W5.cell? ⟨wr.heap.size, 3, none⟩ = some (.int .i64 y.e) := by rw [HF5.out.2.at_]; rfl
        have g4 : W5.cell? ⟨wr.heap.size, 4, none⟩ = some (.int .i64 zl) := by rw [HF5.out.2.at_]; rfl
        have hoc : (ownN o (L.take k) : Int) ≤ 100000 := by have := ownN_le o (L.take k); rw [List.length_take] at this; have := HL.out; omega
        go_wp2_with (first
          | (at_builtin; refine wpList_pushL rfl _ _ 42 rfl (w.heap.size + 2) 71 (lseV lse0) 56 Tryd.underlying42 rlseInfo rfl (by omega) _ ((L.map (updL o tk)).take k) ⟨y.t, y.a, y.o, y.e, zl⟩ rfl ((HA.out.1.kept (only_of_below HF5.out.1 none) (own_or _)).kept (World.grownBy_alloc _ _ none) (own_or _)) W5.heap.size 1 rfl ?c3 ?c4 ?c5 ?_)
          | fail)
        case c3 => exact Whole.new rfl rfl
        case c4 => have := HL.out; first | omega | (simp; omega) | (rw [List.length_take, List.length_map]; omega)
        case c5 => have := HF5.out.1.size; have := HA.out.2.2.2.2.1; simp; omega
        intro v' W7 h7 hg7 hloc
        clear g0 g1 g2 g3 g4 hloc
        have HF7 := Lib.hid (show Lows W7 (w.heap.size + 2) 71 v' ((L.map (updL o tk)).take (k + 1)) ∧ Below w.heap.size w W7 ∧ Whole W7 w.heap.size 44 (refC n tt l e (.slice (some ⟨gv, 0, none⟩) L.length c)) ∧ Whole W7 (w.heap.size + 1) 44 (refC 0 0 0 0 (.slice none 0 0)) ∧ w.heap.size + 2 ≤ W7.heap.size by
          obtain ⟨q1, q2, q3, q4, q5, _⟩ := HA.out
          have hz := HZ.out
          have hb5 := HF5.out.1
          have hs5 := hb5.size
          have hlt := fun g hg => (q1.lt g hg).1
          have hs7 := hg7.size
          simp at hs7
          refine ⟨?_, ((q2.trans (hb5.mono q2.size)).alloc (by omega) _).grown hg7 (by simp; omega) (fun k hk => by have := hlt k hk; omega), ((q3.below hb5 q3.inside).alloc _).only hg7 (fun e => by have := hlt _ e.symm; omega), ((q4.below hb5 q4.inside).alloc _).only hg7 (fun e => by have := hlt _ e.symm; omega), by omega⟩
          rw [take_succ_of (y := ⟨y.t, y.a, y.o, y.e, zl⟩) (by rw [List.getElem?_map, HY.out]; exact congrArg some (show updL o tk y = _ from (by unfold updL; rw [if_neg HO.out, HZL.out])))]
          exact h7)
        clear h7 hg7 hoc
        go_wp2_with fail
        go_roundg (L.length - (k + 1))
        case measure => have := HA.out.2.2.2.2.2; omega
        case rel => exact ⟨k + 1, by have := HA.out.2.2.2.2.2; omega, by go_num, by rw [ownN_no HY.out HO.out], HF7.out⟩
    · have hkl : k = L.length := by omega
      subst hkl
      have hlens := HA.out.1.lens
      rw [List.take_of_length_le (by rw [List.length_map]; omega), List.length_map] at hlens
      obtain ⟨As, cs, hs⟩ := hlens
      subst hs
      have hr := HA.out
      rw [List.take_of_length_le (by rw [List.length_map]; omega)] at hr
      have HR := Lib.hid hr
      have HC := Lib.hid (show ownN o (L.take L.length) = ownN o L by rw [List.take_length])
      have c4 : wr.cell? ⟨w.heap.size, 4, none⟩ = some (.slice A L.length c) := by rw [hr.2.2.1.at_]; rfl
      have d4 : wr.frozen? ⟨w.heap.size, 4, none⟩ = false := hr.2.2.1.free 4
      have c0 : wr.cell? ⟨w.heap.size, 0, none⟩ = some (.int .i64 n) := by rw [hr.2.2.1.at_]; rfl
      have c1 : wr.cell? ⟨w.heap.size, 1, none⟩ = some (.int .i64 tt) := by rw [hr.2.2.1.at_]; rfl
      have c2 : wr.cell? ⟨w.heap.size, 2, none⟩ = some (.int .i64 l) := by rw [hr.2.2.1.at_]; rfl
      have c3 : wr.cell? ⟨w.heap.size, 3, none⟩ = some (.int .i64 e) := by rw [hr.2.2.1.at_]; rfl
      have k2 := hr.2.2.2.1
      have b0 := k2.at_ 0; have b1 := k2.at_ 1; have b2 := k2.at_ 2; have b3 := k2.at_ 3; have b4 := k2.at_ 4
      have f0 := k2.free 0; have f1 := k2.free 1; have f2 := k2.free 2; have f3 := k2.free 3; have f4 := k2.free 4
      simp only [refC, List.getElem?_toArray, List.getElem?_cons_zero, List.getElem?_cons_succ] at b0 b1 b2 b3 b4
      clear hr hgk k2
      go_wp2_with fail
      have hs1 := only_stored (w := wr) (g := w.heap.size) ⟨w.heap.size, 4, none⟩ rfl (.slice As L.length cs)
      have hH := storedT (HR.out.2.2.2.1.only hs1 (ne_some (by omega))) n tt l e (.slice As L.length cs)
      have hs2 := onlyT (wr.setCell ⟨w.heap.size, 4, none⟩ (.slice As L.length cs)) (w.heap.size + 1) n tt l e (.slice As L.length cs)
      have hlo := (HR.out.1.kept hs1 (.inr (fun e => by have := (HR.out.1.lt _ e).1; omega))).kept hs2 (.inr (fun e => by have := (HR.out.1.lt _ e).1; omega))
      have hbb := (HR.out.2.1.grown hs1 HR.out.2.1.size (fun k hk => by injection hk with hk; omega)).grown hs2 (Nat.le_trans HR.out.2.1.size hs1.size) (fun k hk => by injection hk with hk; omega)
      refine bodyPost_ret_by (results_row_tmp (p := 6) (u := 7) rfl _ _ (w.heap.size + 1) 44 (refC n tt l e (.slice As L.length cs)) (0, 0) _ rfl hH Tryd.underlying44 rfl (by kernel_rfl)) rfl ⟨.slice As L.length cs, ?_, hlo.less (by omega), hbb⟩
      rw [← HC.out, List.take_length]
      rfl
end Go.Proofs.YtlkgdnmfgcmldaaDoor
