/- The table's sift: those of which something is are struck and handed back. -/
import Derived.Test.YtlkgdnmfgcmldaaDoorLea17
namespace Go.Proofs.YtlkgdnmfgcmldaaDoor
open Go.RowKit Go.Spk
set_option linter.unusedVariables false
theorem filter_yes {p : Lse → Bool} {L : List Lse} {k : Nat} {y : Lse} (hy : L[k]? = some y) (hp : p y = true) : (L.take (k + 1)).filter p = (L.take k).filter p ++ [y] := by
  rw [take_succ_of hy, List.filter_append]; simp [hp]
theorem filter_no {p : Lse → Bool} {L : List Lse} {k : Nat} {y : Lse} (hy : L[k]? = some y) (hp : p y = false) : (L.take (k + 1)).filter p = (L.take k).filter p := by
  rw [take_succ_of hy, List.filter_append]; simp [hp]
set_option maxRecDepth 100000 in
set_option maxHeartbeats 2000000 in
theorem sift_calls (g b : Nat) (n tt l e : Int) (L : List Lse) (hA : Asc L) (hL : L.length ≤ 100000) (hsz : ∀ x ∈ L, x.t.size ≤ maxLen ∧ x.a.size ≤ maxLen) (w : World) (hT : Whole w g 60 (tabC n tt l b e)) (hM : TabAt w b L) (hgb : g ≠ b)
    (f : FuncId) (bs : Array Value) (p : Lse → Bool) (eg : ∀ args W, (callFunc f args).run Tryd.prog W = .ok (.enter f args) W)
    (hp : ∀ W, w.grownBy W (some b) → ∀ y ∈ L, Calls Tryd.prog f (#[.agg (lseC y).toArray] ++ bs) W fun e w' => e = .returned (.bool (p y)) ∧ Below W.heap.size W w') :
    Calls Tryd.prog 25 #[.pointer (some ⟨g, 0, none⟩), .func (.func f) #[] bs] w fun e w' => ∃ v, e = .returned v ∧ Lows w' w.heap.size 29 v (L.filter p) ∧ TabAt w' b (L.filter fun y => !p y) ∧ w.grownBy w' (some b) := by
  have HF := Lib.hid (show Whole w g 60 (tabC n tt l b e) ∧ TabAt w b L from ⟨hT, hM⟩)
  have HB := Lib.hid (And.intro hA (And.intro hL (And.intro hsz hgb)))
  have HP := Lib.hid hp
  clear hT hM hA hL hsz hgb hp
  go_enter Tryd.func25, Tryd.ntmps25
  go_wp2_with fail
  refine (all_calls g b n tt l e L HB.out.1 HB.out.2.1 w HF.out.1 HF.out.2).mono ?_
  rintro e W0 ⟨v, rfl, ho, hb0⟩
  have H0 := Lib.hid (And.intro ho hb0)
  have hlen : ∃ A c, v = .slice A L.length c := by
    rcases ho.shape with ⟨h1, h2⟩ | ⟨g', cap, cur, h1, _⟩
    · exact ⟨none, 0, by rw [h1, h2]; rfl⟩
    · exact ⟨_, _, h1⟩
  obtain ⟨A, c, rfl⟩ := hlen
  clear ho hb0
  have hm : (L.length : Int) ≤ 100000 := by have := HB.out.2.1; omega
  go_wp2_with fail
  go_loopw [5, 11] (fun u i wr => ∃ k : Nat, k ≤ L.length ∧ i = .int .i64 k ∧ Lows wr w.heap.size 29 u ((L.take k).filter p) ∧ (u.ownBlock = none ∨ u.ownBlock ≠ (Value.slice A L.length c).ownBlock) ∧ Lows wr w.heap.size 29 (.slice A L.length c) L ∧ TabAt wr b ((L.take k).filter (fun y => !p y) ++ L.drop k) ∧ w.grownBy wr (some b)) (fun _ i _ => L.length - (intOf i).toNat)
  case atStart => exact ⟨0, by omega, rfl, Lows.nil _ _ _, .inl rfl, H0.out.1, HF.out.2.kept (only_of_below H0.out.2 none) (by simp), only_of_below H0.out.2 _⟩
  case round =>
    obtain ⟨k, hk, rfl, hlu, hne, hlo, htab, hgr⟩ := hrel
    have HR := Lib.hid (And.intro hlo (And.intro htab (And.intro hgr (And.intro hlu hne))))
    clear hlo htab hgr hlu hne
    by_cases hlt : k < L.length
    · obtain ⟨y, hy⟩ : ∃ y, L[k]? = some y := ⟨L[k], List.getElem?_eq_getElem hlt⟩
      obtain ⟨gv, cap, hv, hgB, hgl, hcell⟩ := HR.out.1.at_ hy
      injection hv with hv1 hv2 hv3
      subst hv1; subst hv3
      have e0 : wr.cell? ⟨gv, k * 5, none⟩ = some (.string y.t) := (hcell 0 _ rfl).1
      have e1 : wr.cell? ⟨gv, k * 5 + 1, none⟩ = some (.string y.a) := (hcell 1 _ rfl).1
      have e2 : wr.cell? ⟨gv, k * 5 + 2, none⟩ = some (.int .i64 y.o) := (hcell 2 _ rfl).1
      have e3 : wr.cell? ⟨gv, k * 5 + 3, none⟩ = some (.int .i64 y.e) := (hcell 3 _ rfl).1
      have e4 : wr.cell? ⟨gv, k * 5 + 4, none⟩ = some (.int .i64 y.l) := (hcell 4 _ rfl).1
      have HY := Lib.hid hy
      have hki : (k : Int) < L.length := by omega
      clear hy hcell hv2
      have hym : y ∈ L := List.mem_of_getElem? HY.out
      go_wp2_with fail
      refine (HP.out _ (only_made HR.out.2.2.1 _) y hym).mono ?_
      rintro e W1 ⟨rfl, hb1⟩
      clear e0 e1 e2 e3 e4
      have HW := Lib.hid (show Below wr.heap.size wr W1 ∧ Whole W1 wr.heap.size 29 (lseC y).toArray by
        have hb : Below wr.heap.size wr (wr.alloc (.cells (lseC y).toArray 29)) := (Below.refl _ _).alloc (Nat.le_refl _) _
        have hw : Whole (wr.alloc (.cells (lseC y).toArray 29)) wr.heap.size 29 (lseC y).toArray := Whole.new rfl rfl
        exact ⟨hb.trans (hb1.mono (by simp)), hw.below hb1 (by simp)⟩)
      clear hb1
      have HG := Lib.hid (show Whole W1 g 60 (tabC n tt l b e) ∧ TabAt W1 b ((L.take k).filter (fun y => !p y) ++ L.drop k) ∧ w.grownBy W1 (some b) ∧ Lows W1 w.heap.size 29 (.slice (some ⟨gv, 0, none⟩) L.length c) L ∧ Lows W1 w.heap.size 29 _ ((L.take k).filter p) from
        ⟨HF.out.1.only (only_trans HR.out.2.2.1 (only_of_below HW.out.1 _)) (ne_some HB.out.2.2.2), HR.out.2.1.kept (only_of_below HW.out.1 none) (by simp), only_trans HR.out.2.2.1 (only_of_below HW.out.1 _), HR.out.1.kept (only_of_below HW.out.1 none) (own_or _), HR.out.2.2.2.1.kept (only_of_below HW.out.1 none) (own_or _)⟩)
      cases hpy : p y
      · have HE := Lib.hid (And.intro (keep_step HY.out hpy) (filter_no HY.out hpy))
        clear hpy
        go_wp2_with fail
        go_roundw
        case rel => exact ⟨k + 1, by omega, by go_num, by rw [HE.out.2]; exact HG.out.2.2.2.2, HR.out.2.2.2.2, HG.out.2.2.2.1, by rw [← HE.out.1]; exact HG.out.2.1, HG.out.2.2.1⟩
        case measure => simp [intOf]; omega
      · have HE := Lib.hid (And.intro (strike_step HB.out.1 HY.out hpy) (filter_yes HY.out hpy))
        clear hpy
        go_wp2_with fail
        have e3 : W1.cell? ⟨g, 3, none⟩ = some (.map (some b)) := by rw [HG.out.1.at_]; rfl
        have g0 : W1.cell? ⟨wr.heap.size, 0, none⟩ = some (.string y.t) := by rw [HW.out.2.at_]; rfl
        have g1 : W1.cell? ⟨wr.heap.size, 1, none⟩ = some (.string y.a) := by rw [HW.out.2.at_]; rfl
        obtain ⟨W6, hrun, h6, hg6⟩ := (HG.out.2.1.kept (only_drawn (World.grownBy.refl W1 none)) (by simp) : TabAt W1.drew b _).drop y.t y.a (HB.out.2.2.1 y hym).1 (HB.out.2.2.1 y hym).2 0
        have hbw := HF.out.2.lt
        have hwr := HR.out.2.2.1.size
        have ho2 : ∀ q, some q = some b → q < w.heap.size := fun q hq => by injection hq with hq; omega
        have HF6 := Lib.hid (show TabAt W6 b ((L.take (k + 1)).filter (fun y => !p y) ++ L.drop (k + 1)) ∧ w.grownBy W6 (some b) ∧ Lows W6 w.heap.size 29 (.slice (some ⟨gv, 0, none⟩) L.length c) L ∧ Lows W6 w.heap.size 29 _ ((L.take k).filter p) ∧ Whole W6 wr.heap.size 29 (lseC y).toArray ∧ gv < W6.heap.size ∧ w.heap.size ≤ W6.heap.size from
          ⟨by rw [← HE.out.1]; exact h6, only_trans HG.out.2.2.1 (only_trans (only_drawn (World.grownBy.refl W1 _)) hg6),
            (HG.out.2.2.2.1.kept (only_drawn (World.grownBy.refl W1 none)) (own_or _)).kept hg6 (.inr (fun e => by have := (HG.out.2.2.2.1.lt b e).1; omega)),
            (HG.out.2.2.2.2.kept (only_drawn (World.grownBy.refl W1 none)) (own_or _)).kept hg6 (.inr (fun e => by have := (HG.out.2.2.2.2.lt b e).1; omega)),
            HW.out.2.drew.only hg6 (ne_some (by omega)), by have := hg6.size; have := HW.out.1.size; simp at *; omega, by have := hg6.size; have := HW.out.1.size; simp at *; omega⟩)
        unfold nameV at hrun
        clear h6 hg6 hbw hwr ho2
        go_region
        clear e3 g0 g1 hrun
        have g0 : W6.cell? ⟨wr.heap.size, 0, none⟩ = some (.string y.t) := by rw [HF6.out.2.2.2.2.1.at_]; rfl
        have g1 : W6.cell? ⟨wr.heap.size, 1, none⟩ = some (.string y.a) := by rw [HF6.out.2.2.2.2.1.at_]; rfl
        have g2 : W6.cell? ⟨wr.heap.size, 2, none⟩ = some (.int .i64 y.o) := by rw [HF6.out.2.2.2.2.1.at_]; rfl
        have g3 : W6.cell? ⟨wr.heap.size, 3, none⟩ = some (.int .i64 y.e) := by rw [HF6.out.2.2.2.2.1.at_]; rfl
        have g4 : W6.cell? ⟨wr.heap.size, 4, none⟩ = some (.int .i64 y.l) := by rw [HF6.out.2.2.2.2.1.at_]; rfl
        go_wp2_with (first
          | (at_builtin; refine wpList_pushL rfl _ _ 34 rfl w.heap.size 29 (lseV lse0) 56 Tryd.underlying34 lseInfo rfl (by omega) _ ((L.take k).filter p) y rfl (HF6.out.2.2.2.1.kept (World.grownBy_alloc _ _ none) (own_or _)) W6.heap.size 1 rfl ?c3 ?c4 ?c5 ?_)
          | fail)
        case c3 => exact Whole.new rfl rfl
        case c4 => have h1 := List.length_filter_le p (L.take k); rw [List.length_take] at h1; have := HB.out.2.1; omega
        case c5 => have := HF6.out.2.2.2.2.2.2; simp; omega
        intro v' W7 h7 hg7 hloc
        clear g0 g1 g2 g3 g4
        have HF7 := Lib.hid (show Lows W7 w.heap.size 29 v' ((L.take (k + 1)).filter p) ∧ (v'.ownBlock = none ∨ v'.ownBlock ≠ (Value.slice (some ⟨gv, 0, none⟩) L.length c).ownBlock) ∧ Lows W7 w.heap.size 29 (.slice (some ⟨gv, 0, none⟩) L.length c) L ∧ TabAt W7 b ((L.take (k + 1)).filter (fun y => !p y) ++ L.drop (k + 1)) ∧ w.grownBy W7 (some b) by
          obtain ⟨q1, q2, q3, q4, q5, q6, q7⟩ := HF6.out
          have hne := HR.out.2.2.2.2
          have hbw := HF.out.2.lt
          refine ⟨by rw [HE.out.2]; exact h7, ?_, (q3.kept (World.grownBy_alloc _ _ none) (own_or _)).kept hg7 (.inr ?_), (q1.kept (World.grownBy_alloc _ _ none) (by simp)).kept hg7 ?_, ?_⟩
          · rcases hloc with h | h
            · rw [h]; exact hne
            · refine .inr (fun e => ?_)
              rw [h] at e
              simp [Value.ownBlock] at e
              omega
          · rcases hne with h | h
            · rw [h]; simp [Value.ownBlock]
            · exact fun e => h e.symm
          · intro e
            have := (q4.lt b e.symm).1
            omega
          · have ha : w.grownBy (W6.alloc _) (some b) := only_made q2 (.cells #[Value.string y.t, Value.string y.a, Value.int IntKind.i64 y.o, Value.int IntKind.i64 y.e, Value.int IntKind.i64 y.l] 29)
            refine ⟨hg7.os.trans ha.os, hg7.tape.trans ha.tape, hg7.output.trans ha.output, Nat.le_trans ha.size hg7.size, fun i hi hb => (hg7.block i (Nat.lt_of_lt_of_le hi ha.size) (fun e => ?_)).trans (ha.block i hi hb)⟩
            have := (q4.lt i e.symm).1
            omega)
        clear h7 hg7 hloc
        go_wp2_with fail
        go_roundw
        case rel => exact ⟨k + 1, by omega, by go_num, HF7.out⟩
        case measure => simp [intOf]; omega
    · have hkl : k = L.length := by omega
      subst hkl
      have hr := HR.out
      rw [List.take_length, List.drop_length, List.append_nil] at hr
      have HR2 := Lib.hid hr
      clear hr
      go_wp2_with fail
      go_ret
      exact ⟨_, rfl, HR2.out.2.2.2.1, HR2.out.2.1, HR2.out.2.2.1⟩
end Go.Proofs.YtlkgdnmfgcmldaaDoor
