/- The table's Drop and Expire. -/
import Derived.Test.YtlkgdnmfgcmldaaDoorLea18
namespace Go.Proofs.YtlkgdnmfgcmldaaDoor
open Go.RowKit Go.Spk
set_option linter.unusedVariables false
def isOwn (o : Int) (y : Lse) : Bool := decide (y.o = o)
def isOver (life tk : Int) (y : Lse) : Bool := decide (life ≤ tk - y.l)
theorem drop1_calls (y : Lse) (o : Int) (q : Nat) (W : World) (h : W.cell? ⟨q, 0, none⟩ = some (.int .i64 o)) :
    Calls Tryd.prog 36 #[.agg (lseC y).toArray, .pointer (some ⟨q, 0, none⟩)] W fun e w' => e = .returned (.bool (isOwn o y)) ∧ Below W.heap.size W w' := by
  have h2 : (W.alloc (.cells (lseC y).toArray 29)).cell? ⟨q, 0, none⟩ = some (.int .i64 o) := (World.cell?_alloc_lt W _ _ (block_lt_of_cell h)).trans h
  unfold lseC at h2 ⊢
  clear h
  go_enter Tryd.func36, Tryd.ntmps36
  go_wp2_with fail
  go_ret
  exact ⟨rfl, by go_grown⟩
set_option maxRecDepth 100000 in
theorem expire1_calls (y : Lse) (now : Int) (q q2 g : Nat) (n tt l e : Int) (b : Nat) (hl : 0 ≤ y.l ∧ y.l ≤ 1099511627776) (W : World) (h : W.cell? ⟨q, 0, none⟩ = some (.int .i64 now)) (h2 : W.cell? ⟨q2, 0, none⟩ = some (.pointer (some ⟨g, 0, none⟩))) (hT : Whole W g 60 (tabC n tt l b e)) :
    Calls Tryd.prog 26 #[.agg (lseC y).toArray, .pointer (some ⟨q, 0, none⟩), .pointer (some ⟨q2, 0, none⟩)] W fun e w' => e = .returned (.bool (isOver l (tickI now) y)) ∧ Below W.heap.size W w' := by
  obtain ⟨tk, htk⟩ : ∃ tk, tk = tickI now := ⟨_, rfl⟩
  have HTC := Lib.hid (show ∀ W, Calls Tryd.prog 24 #[.int .i64 now] W fun e w' => e = .returned (.int .i64 tk) ∧ w' = W from fun W => by rw [htk]; exact tick_calls now W)
  have htb : 0 ≤ tk ∧ tk ≤ 1099511627776 := by rw [htk]; unfold tickI; omega
  rw [← htk]
  obtain ⟨hl1, hl2⟩ := hl
  obtain ⟨ht1, ht2⟩ := htb
  have HH := Lib.hid (And.intro h (And.intro h2 hT))
  clear htk h h2 hT
  unfold lseC
  go_enter Tryd.func26, Tryd.ntmps26
  go_wp2_with fail
  refine name_wp (fun W1 => Below W.heap.size W W1 ∧ W1.cell? ⟨W.heap.size, 4, none⟩ = some (.int .i64 y.l)) ⟨(Below.refl _ _).alloc (Nat.le_refl _) _, by simp [go_sem]⟩ ?_
  rintro W1 ⟨h1, c4⟩
  have H1 := Lib.hid h1
  have k1 : W1.cell? ⟨q, 0, none⟩ = some (.int .i64 now) := (h1.cell (p := ⟨q, 0, none⟩) (block_lt_of_cell HH.out.1)).trans HH.out.1
  have k2 : W1.cell? ⟨q2, 0, none⟩ = some (.pointer (some ⟨g, 0, none⟩)) := (h1.cell (p := ⟨q2, 0, none⟩) (block_lt_of_cell HH.out.2.1)).trans HH.out.2.1
  have k3 : W1.cell? ⟨g, 2, none⟩ = some (.int .i64 l) := by rw [(HH.out.2.2.below h1 HH.out.2.2.inside).at_]; rfl
  have hsub : IntKind.i64.wrap (tk - y.l) = tk - y.l := by simp [IntKind.wrap_i64]; omega
  clear h1
  go_region_held3 (fun W' => W'.cell? ⟨q, 0, none⟩ = some (.int .i64 now) ∧ W'.cell? ⟨q2, 0, none⟩ = some (.pointer (some ⟨g, 0, none⟩)) ∧ W'.cell? ⟨g, 2, none⟩ = some (.int .i64 l) ∧ W'.cell? ⟨W.heap.size, 4, none⟩ = some (.int .i64 y.l)) (go_keep)
    ((go_at_call 24; refine (HTC.out _).mono ?_; rintro e w' ⟨rfl, rfl⟩))
  all_goals go_wp2_with fail
  all_goals go_ret
  all_goals exact ⟨rfl, by first | exact H1.out | exact below_drawnN H1.out 1⟩
theorem drop_calls (g b : Nat) (n tt l e : Int) (L : List Lse) (hA : Asc L) (hL : L.length ≤ 100000) (hsz : ∀ x ∈ L, x.t.size ≤ maxLen ∧ x.a.size ≤ maxLen) (o : Int) (w : World) (hT : Whole w g 60 (tabC n tt l b e)) (hM : TabAt w b L) (hgb : g ≠ b) :
    Calls Tryd.prog 22 #[.pointer (some ⟨g, 0, none⟩), .int .i64 o] w fun e w' => ∃ v, e = .returned v ∧ Lows w' w.heap.size 29 v (L.filter (isOwn o)) ∧ TabAt w' b (L.filter fun y => !isOwn o y) ∧ w.grownBy w' (some b) := by
  have eg : ∀ args W, (callFunc 36 args).run Tryd.prog W = .ok (.enter 36 args) W := enters_of Tryd.func36 (by kernel_rfl) rfl
  have hs := sift_calls g b n tt l e L hA hL hsz (w.alloc (.cells #[.int .i64 o] 3)) (hT.alloc _) (hM.kept (World.grownBy_alloc w _ none) (by simp)) hgb 36 #[.pointer (some ⟨w.heap.size, 0, none⟩)] (isOwn o) eg (fun W hg y hy => by
    have hc : (w.alloc (.cells #[.int .i64 o] 3)).cell? ⟨w.heap.size, 0, none⟩ = some (.int .i64 o) := by simp [go_sem]
    have hb := hM.lt
    exact drop1_calls y o w.heap.size W ((World.cell?_of_block (hg.block w.heap.size (by simp) (ne_some (by omega)))).trans hc))
  have HS := Lib.hid hs
  have HM := Lib.hid hM
  clear hs hM hT hA hL hsz hgb eg
  go_enter Tryd.func22, Tryd.ntmps22
  go_wp2_with fail
  refine HS.out.mono ?_
  rintro e W1 ⟨v, rfl, h1, h2, h3⟩
  have HR := Lib.hid (And.intro h1 (And.intro h2 h3))
  clear h1 h2 h3
  go_wp2_with fail
  go_ret
  exact ⟨_, rfl, HR.out.1.less (by simp), HR.out.2.1, only_trans (World.grownBy_alloc w _ _) HR.out.2.2⟩
theorem expire_calls (g b : Nat) (n tt l e : Int) (L : List Lse) (hA : Asc L) (hL : L.length ≤ 100000) (hsz : ∀ x ∈ L, x.t.size ≤ maxLen ∧ x.a.size ≤ maxLen) (hl : ∀ x ∈ L, 0 ≤ x.l ∧ x.l ≤ 1099511627776) (now : Int) (w : World) (hT : Whole w g 60 (tabC n tt l b e)) (hM : TabAt w b L) (hgb : g ≠ b) :
    Calls Tryd.prog 10 #[.pointer (some ⟨g, 0, none⟩), .int .i64 now] w fun e w' => ∃ v, e = .returned v ∧ Lows w' w.heap.size 29 v (L.filter (isOver l (tickI now))) ∧ TabAt w' b (L.filter fun y => !isOver l (tickI now) y) ∧ w.grownBy w' (some b) := by
  have eg : ∀ args W, (callFunc 26 args).run Tryd.prog W = .ok (.enter 26 args) W := enters_of Tryd.func26 (by kernel_rfl) rfl
  have hs := sift_calls g b n tt l e L hA hL hsz ((w.alloc (.cells #[.pointer (some ⟨g, 0, none⟩)] 24)).alloc (.cells #[.int .i64 now] 3)) ((hT.alloc _).alloc _) ((hM.kept (World.grownBy_alloc w _ none) (by simp)).kept (World.grownBy_alloc _ _ none) (by simp)) hgb 26 #[.pointer (some ⟨w.heap.size + 1, 0, none⟩), .pointer (some ⟨w.heap.size, 0, none⟩)] (isOver l (tickI now)) eg (fun W hg y hy => by
    have hc : ((w.alloc (.cells #[.pointer (some ⟨g, 0, none⟩)] 24)).alloc (.cells #[.int .i64 now] 3)).cell? ⟨w.heap.size + 1, 0, none⟩ = some (.int .i64 now) := by simp [go_sem]
    have hc2 : ((w.alloc (.cells #[.pointer (some ⟨g, 0, none⟩)] 24)).alloc (.cells #[.int .i64 now] 3)).cell? ⟨w.heap.size, 0, none⟩ = some (.pointer (some ⟨g, 0, none⟩)) := by simp [go_sem]
    have hb := hM.lt
    exact expire1_calls y now (w.heap.size + 1) w.heap.size g n tt l e b (hl y hy) W ((World.cell?_of_block (hg.block (w.heap.size + 1) (by simp) (ne_some (by omega)))).trans hc) ((World.cell?_of_block (hg.block w.heap.size (by simp; omega) (ne_some (by omega)))).trans hc2) (((hT.alloc _).alloc _).only hg (ne_some hgb)))
  have HS := Lib.hid hs
  clear hs hM hT hA hL hsz hgb eg hl
  go_enter Tryd.func10, Tryd.ntmps10
  go_wp2_with fail
  refine HS.out.mono ?_
  rintro e W1 ⟨v, rfl, h1, h2, h3⟩
  have HR := Lib.hid (And.intro h1 (And.intro h2 h3))
  clear h1 h2 h3
  go_wp2_with fail
  go_ret
  exact ⟨_, rfl, HR.out.1.less (by simp; omega), HR.out.2.1, only_trans (only_trans (World.grownBy_alloc w _ _) (World.grownBy_alloc _ _ _)) HR.out.2.2⟩
end Go.Proofs.YtlkgdnmfgcmldaaDoor
