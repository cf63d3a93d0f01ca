/- The table's Beat. -/
import Derived.Test.YtlkgdnmfgcmldaaDoorLea14
import Derived.Test.YtlkgdnmfgcmldaaDoorLea16
namespace Go.Proofs.YtlkgdnmfgcmldaaDoor
open Go.RowKit Go.Spk
set_option linter.unusedVariables false
def updL (o tk : Int) (y : Lse) : Lse := if y.o = o then ⟨y.t, y.a, y.o, y.e, max y.l tk⟩ else y
theorem updL_name (o tk : Int) (y : Lse) : (updL o tk y).t = y.t ∧ (updL o tk y).a = y.a := by unfold updL; split <;> exact ⟨rfl, rfl⟩
def ownN (o : Int) (L : List Lse) : Nat := (L.filter fun y => decide (y.o = o)).length
theorem ownN_le (o : Int) (L : List Lse) : ownN o L ≤ L.length := List.length_filter_le _ _
theorem ownN_yes {o : Int} {L : List Lse} {k : Nat} {y : Lse} (hy : L[k]? = some y) (ho : y.o = o) : ownN o (L.take (k + 1)) = ownN o (L.take k) + 1 := by
  unfold ownN
  rw [take_succ_of hy, List.filter_append]
  simp [ho]
theorem ownN_no {o : Int} {L : List Lse} {k : Nat} {y : Lse} (hy : L[k]? = some y) (ho : ¬ y.o = o) : ownN o (L.take (k + 1)) = ownN o (L.take k) := by
  unfold ownN
  rw [take_succ_of hy, List.filter_append]
  simp [ho]
set_option maxRecDepth 100000 in
set_option maxHeartbeats 2000000 in
theorem beat_calls (g b : Nat) (n tt l e : Int) (L : List Lse) (hA : Asc L) (hL : L.length ≤ 100000) (hsz : ∀ x ∈ L, x.t.size ≤ maxLen ∧ x.a.size ≤ maxLen) (o now : Int) (w : World) (hT : Whole w g 60 (tabC n tt l b e)) (hM : TabAt w b L) (hgb : g ≠ b) :
    Calls Tryd.prog 13 #[.pointer (some ⟨g, 0, none⟩), .int .i64 o, .int .i64 now] w fun e w' => e = .returned (.int .i64 (ownN o L)) ∧ TabAt w' b (L.map (updL o (tickI now))) ∧ w.grownBy w' (some b) := by
  have HF := Lib.hid (show Whole w g 60 (tabC n tt l b e) ∧ TabAt w b L from ⟨hT, hM⟩)
  have HB := Lib.hid (And.intro hA (And.intro hL (And.intro hsz hgb)))
  clear hT hM hA hL hsz hgb
  obtain ⟨tk, htk⟩ : ∃ tk, tk = tickI now := ⟨_, rfl⟩
  have HTC := Lib.hid (show ∀ W, Calls Tryd.prog 24 #[.int .i64 now] W fun e w' => e = .returned (.int .i64 tk) ∧ w' = W from fun W => by rw [htk]; exact tick_calls now W)
  rw [← htk]
  clear htk
  go_enter Tryd.func13, Tryd.ntmps13
  go_wp2_with fail
  refine (all_calls g b n tt l e L HB.out.1 HB.out.2.1 w HF.out.1 HF.out.2).mono ?_
  rintro e W0 ⟨v, rfl, ho, hb0⟩
  have H0 := Lib.hid (And.intro ho hb0)
  have hlen : ∃ A c, v = .slice A L.length c := by
    rcases ho.shape with ⟨h1, h2⟩ | ⟨g', cap, cur, h1, _⟩
    · exact ⟨none, 0, by rw [h1, h2]; rfl⟩
    · exact ⟨_, _, h1⟩
  obtain ⟨A, c, rfl⟩ := hlen
  clear ho hb0
  have hm : (L.length : Int) ≤ 100000 := by have := HB.out.2.1; omega
  go_wp2_with fail
  go_loopw [7, 13] (fun u i wr => ∃ k : Nat, k ≤ L.length ∧ i = .int .i64 k ∧ u = .int .i64 (ownN o (L.take k)) ∧ Lows wr w.heap.size 29 (.slice A L.length c) L ∧ TabAt wr b ((L.take k).map (updL o tk) ++ L.drop k) ∧ w.grownBy wr (some b)) (fun _ i _ => L.length - (intOf i).toNat)
  case atStart => exact ⟨0, by omega, rfl, rfl, H0.out.1, HF.out.2.kept (only_of_below H0.out.2 none) (by simp), only_of_below H0.out.2 _⟩
  case round =>
    obtain ⟨k, hk, rfl, rfl, hlo, htab, hgr⟩ := hrel
    have HR := Lib.hid (And.intro hlo (And.intro htab hgr))
    clear hlo htab hgr
    by_cases hlt : k < L.length
    · obtain ⟨y, hy⟩ : ∃ y, L[k]? = some y := ⟨L[k], List.getElem?_eq_getElem hlt⟩
      obtain ⟨gv, cap, hv, hgB, hgl, hcell⟩ := HR.out.1.at_ hy
      injection hv with hv1 hv2 hv3
      subst hv1; subst hv3
      have e0 : wr.cell? ⟨gv, k * 5, none⟩ = some (.string y.t) := (hcell 0 _ rfl).1
      have e1 : wr.cell? ⟨gv, k * 5 + 1, none⟩ = some (.string y.a) := (hcell 1 _ rfl).1
      have e2 : wr.cell? ⟨gv, k * 5 + 2, none⟩ = some (.int .i64 y.o) := (hcell 2 _ rfl).1
      have e3 : wr.cell? ⟨gv, k * 5 + 3, none⟩ = some (.int .i64 y.e) := (hcell 3 _ rfl).1
      have e4 : wr.cell? ⟨gv, k * 5 + 4, none⟩ = some (.int .i64 y.l) := (hcell 4 _ rfl).1
      have HY := Lib.hid hy
      have hki : (k : Int) < L.length := by omega
      clear hy hcell hv2
      by_cases ho : y.o = o
      · go_wp2_with fail
        refine name_wp (fun W => Below wr.heap.size wr W ∧ Whole W wr.heap.size 29 (lseC y).toArray) ⟨(Below.refl _ _).alloc (Nat.le_refl _) _, Whole.new rfl (by rw [← ho]; rfl)⟩ ?_
        intro W1 h1
        have H1 := Lib.hid h1
        have d4 : W1.cell? ⟨wr.heap.size, 4, none⟩ = some (.int .i64 y.l) := h1.2.at_ 4
        have f4 : W1.frozen? ⟨wr.heap.size, 4, none⟩ = false := h1.2.free 4
        clear h1 e0 e1 e2 e3 e4
        go_region_with ((go_at_call 24; refine (HTC.out _).mono ?_; rintro e w' ⟨rfl, rfl⟩))
        all_goals
          clear d4 f4
          go_wp2_with fail
          obtain ⟨z, hz⟩ : ∃ z : Lse, z = ⟨y.t, y.a, o, y.e, max y.l tk⟩ := ⟨_, rfl⟩
          refine name_wp (fun W => Whole W g 60 (tabC n tt l b e) ∧ TabAt W b ((L.take k).map (updL o tk) ++ L.drop k) ∧ w.grownBy W (some b) ∧ Lows W w.heap.size 29 (.slice (some ⟨gv, 0, none⟩) L.length c) L ∧ Whole W wr.heap.size 29 (lseC z).toArray) ?_ ?_
          · have hs := only_drawn (only_stored (w := W1) (g := wr.heap.size) ⟨wr.heap.size, 4, none⟩ rfl (.int .i64 (max y.l tk)))
            have hb : Below wr.heap.size wr _ := H1.out.1.grown hs H1.out.1.size (fun k hk => by injection hk with hk; omega)
            have ht := HR.out.2.1.kept (only_of_below hb none) (by simp)
            have hg := only_trans HR.out.2.2 (only_of_below hb _)
            have hl := HR.out.1.kept (only_of_below hb none) (.inr (by simp [Value.ownBlock]))
            exact ⟨HF.out.1.only hg (ne_some HB.out.2.2.2), ht, hg, hl, by rw [hz, ← ho]; exact (H1.out.2.stored 4 _).drew⟩
          intro W5 hF5
          have HF5 := Lib.hid hF5
          have HZ := Lib.hid hz
          clear hF5 hz
          have e3 : W5.cell? ⟨g, 3, none⟩ = some (.map (some b)) := by rw [HF5.out.1.at_]; rfl
          have g0 : W5.cell? ⟨wr.heap.size, 0, none⟩ = some (.string y.t) := by rw [HF5.out.2.2.2.2.at_, HZ.out]; rfl
          have g1 : W5.cell? ⟨wr.heap.size, 1, none⟩ = some (.string y.a) := by rw [HF5.out.2.2.2.2.at_, HZ.out]; rfl
          have g2 : W5.cell? ⟨wr.heap.size, 2, none⟩ = some (.int .i64 o) := by rw [HF5.out.2.2.2.2.at_, HZ.out]; rfl
          have g3 : W5.cell? ⟨wr.heap.size, 3, none⟩ = some (.int .i64 y.e) := by rw [HF5.out.2.2.2.2.at_, HZ.out]; rfl
          have g4 : W5.cell? ⟨wr.heap.size, 4, none⟩ = some (.int .i64 (max y.l tk)) := by rw [HF5.out.2.2.2.2.at_, HZ.out]; rfl
          have hym : y ∈ L := List.mem_of_getElem? HY.out
          have hlen5 : ((L.take k).map (updL o tk) ++ L.drop k).length ≤ 100000 := by
            rw [List.length_append, List.length_map, List.length_take, List.length_drop]; have := HB.out.2.1; omega
          obtain ⟨W6, hrun, h6, hg6⟩ := (HF5.out.2.1.kept (only_drawn (World.grownBy.refl W5 none)) (by simp) : TabAt W5.drew b _).put z (by rw [HZ.out]; exact (HB.out.2.2.1 y hym).1) (by rw [HZ.out]; exact (HB.out.2.2.1 y hym).2) (by unfold maxLen; omega)
          have hgv : some gv ≠ some b := ne_some (by have := HF.out.2.lt; omega)
          have hzu : z = updL o tk y := by rw [HZ.out]; unfold updL; rw [if_pos ho, ho]
          have HF6 := Lib.hid (show TabAt W6 b ((L.take (k + 1)).map (updL o tk) ++ L.drop (k + 1)) ∧ w.grownBy W6 (some b) ∧ Lows W6 w.heap.size 29 (.slice (some ⟨gv, 0, none⟩) L.length c) L from
            ⟨h6.perm (by rw [hzu]; exact turn_step (updL_name o tk) HB.out.1 HY.out), only_trans HF5.out.2.2.1 (only_trans (only_drawn (World.grownBy.refl W5 _)) hg6), (HF5.out.2.2.2.1.kept (only_drawn (World.grownBy.refl W5 none)) (.inr (by simp [Value.ownBlock]))).kept hg6 (.inr (by simpa [Value.ownBlock] using fun e => hgv (by rw [e])))⟩)
          rw [HZ.out] at hrun
          unfold nameV lseV at hrun
          clear h6 hg6 hlen5 hym hgv hzu
          go_region
          clear e3 g0 g1 g2 g3 g4 hrun
          have hoc : (ownN o (L.take k) : Int) ≤ 100000 := by have := ownN_le o (L.take k); rw [List.length_take] at this; have := HB.out.2.1; omega
          go_wp2_with fail
          clear hoc
          go_roundw
          case rel => exact ⟨k + 1, by omega, by go_num, by rw [ownN_yes HY.out ho]; go_num, HF6.out.2.2, HF6.out.1, HF6.out.2.1⟩
          case measure => simp [intOf]; omega
      · go_wp2_with fail
        clear e0 e1 e2 e3 e4
        go_roundw
        case rel =>
          refine ⟨k + 1, by omega, by go_num, by rw [ownN_no HY.out ho], ?_, ?_, ?_⟩
          · exact HR.out.1.kept (World.grownBy_alloc _ _ none) (.inr (by simp [Value.ownBlock]))
          · have e : (L.take k).map (updL o tk) ++ L.drop k = (L.take (k + 1)).map (updL o tk) ++ L.drop (k + 1) := by
              rw [drop_of HY.out, take_succ_of HY.out, List.map_append]
              simp [updL, ho]
            rw [← e]
            exact HR.out.2.1.kept (World.grownBy_alloc _ _ none) (by simp)
          · exact only_made HR.out.2.2 _
        case measure => simp [intOf]; omega
    · have hkl : k = L.length := by omega
      subst hkl
      have hr := HR.out
      rw [List.take_length, List.drop_length, List.append_nil] at hr
      have HR2 := Lib.hid hr
      have HR3 := Lib.hid (show ownN o (L.take L.length) = ownN o L by rw [List.take_length])
      clear hr
      go_wp2_with fail
      go_ret
      exact ⟨by rw [HR3.out]; rfl, HR2.out.2.1, HR2.out.2.2⟩
end Go.Proofs.YtlkgdnmfgcmldaaDoor
