/- The function that All hands to the sort. -/
import Derived.Test.YtlkgdnmfgcmldaaDoorLea11
import Derived.Shelf.SlSortCmp.InsertionK
namespace Go.Proofs.YtlkgdnmfgcmldaaDoor
open Go.RowKit Go.Spk Go.Sort
set_option linter.unusedVariables false
set_option maxRecDepth 100000 in
theorem order_calls (x y : Lse) (w : World) : Calls Tryd.prog 33 #[.agg (lseC x).toArray, .agg (lseC y).toArray] w fun e w' => e = .returned (.int .i64 (cmpL x y)) ∧ ∃ q os, w' = grow (w.drewN q) os := by
  obtain ⟨u, hu⟩ : ∃ u, u = cmpS x.t y.t := ⟨_, rfl⟩
  obtain ⟨v, hv⟩ : ∃ v, v = cmpS x.a y.a := ⟨_, rfl⟩
  have hc1 : ∀ W : World, Calls Tryd.prog 35 #[.string x.t, .string y.t] W fun e w' => e = .returned (.int .i64 u) ∧ W = w' := fun W => by rw [hu]; exact cmpS_calls _ _ W
  have hc2 : ∀ W : World, Calls Tryd.prog 35 #[.string x.a, .string y.a] W fun e w' => e = .returned (.int .i64 v) ∧ W = w' := fun W => by rw [hv]; exact cmpS_calls _ _ W
  have H1 := Lib.hid hc1; have H2 := Lib.hid hc2
  obtain ⟨r, hr⟩ : ∃ r, r = if u ≠ 0 then u else v := ⟨_, rfl⟩
  have hor : ∀ (g c : Nat) (W : World), W.cell? ⟨g, 0, none⟩ = some (.int .i64 u) → W.cell? ⟨g, 1, none⟩ = some (.int .i64 v) → Calls Tryd.prog 34 #[.slice (some ⟨g, 0, none⟩) 2 c] W fun e w' => e = .returned (.int .i64 r) ∧ W = w' :=
    fun g c W a b => by rw [hr]; exact or_calls g c u v W a b
  have H3 := Lib.hid hor
  unfold cmpL
  rw [← hu, ← hv, ← hr]
  clear hc1 hc2 hu hv hor hr
  unfold lseC
  go_enter Tryd.func33, Tryd.ntmps33
  go_wp2_with fail
  obtain ⟨n0, hn0⟩ : ∃ n0, n0 = w.heap.size := ⟨_, rfl⟩
  rw [← hn0]
  generalize hW : World.alloc _ _ = W0
  have hF : W0.cell? ⟨n0, 0, none⟩ = some (.string x.t) ∧ W0.cell? ⟨n0 + 1, 0, none⟩ = some (.string y.t) ∧ W0.cell? ⟨n0, 1, none⟩ = some (.string x.a) ∧ W0.cell? ⟨n0 + 1, 1, none⟩ = some (.string y.a) := by
    subst hW; subst hn0; simp [go_sem]
  have HW := Lib.hid (show ∃ os, W0 = grow w os by subst hW; exact ⟨_, by rw [alloc_eq_grow, alloc_eq_grow, grow_grow]⟩)
  obtain ⟨f1, f2, f3, f4⟩ := hF
  clear hW hn0
  go_region_held3 (fun w' => w'.cell? ⟨n0, 0, none⟩ = some (.string x.t) ∧ w'.cell? ⟨n0 + 1, 0, none⟩ = some (.string y.t) ∧ w'.cell? ⟨n0, 1, none⟩ = some (.string x.a) ∧ w'.cell? ⟨n0 + 1, 1, none⟩ = some (.string y.a)) (go_keep)
    (first
      | (go_at_call_of 35 (Value.string x.t); refine (H1.out _).mono ?_; rintro e w' ⟨rfl, rfl⟩)
      | (go_at_call_of 35 (Value.string x.a); refine (H2.out _).mono ?_; rintro e w' ⟨rfl, rfl⟩)
      | (go_at_call 34; refine (H3.out _ _ _ ?_ ?_).mono ?_; (simp [go_sem]); (simp [go_sem]); rintro e w' ⟨rfl, rfl⟩))
  all_goals go_wp2_with fail
  all_goals go_ret
  all_goals (obtain ⟨os, e⟩ := HW.out; subst e; exact ⟨rfl, 1, os ++ #[_], by rw [alloc_eq_grow, grow_grow]; rfl⟩)
theorem ltOf_cmpL (x y : Lse) : ltOf cmpL x y = ltL x y := by
  have irr : ∀ s : ByteArray, ¬ s.data.toList < s.data.toList := fun s => List.lt_irrefl _
  unfold ltOf cmpL ltL ltN cmpS
  rcases lt_three x.t y.t with h | h | h
  · simp [h]
  · rw [h]
    rcases lt_three x.a y.a with k | k | k
    · simp [k, irr]
    · simp [k, irr]
    · simp [k, irr, List.lt_asymm k]
  · have hn := List.lt_asymm h
    have hne : ¬ x.t = y.t := fun e => by rw [e] at h; exact irr _ h
    simp [h, hn, hne]
theorem cmpL_swo : SWO (ltOf cmpL) where
  irrefl x := by rw [ltOf_cmpL]; unfold ltL; exact ltN_irrefl _ _
  trans x y z h1 h2 := by rw [ltOf_cmpL] at *; exact ltN_trans h1 h2
  ntrans x y z h1 h2 := by
    rw [ltOf_cmpL] at *
    unfold ltL at *
    cases h : ltN x.t x.a z.t z.a
    · rfl
    · rcases ltN_three x.t x.a y.t y.a with k | ⟨k1, k2⟩ | k
      · rw [k] at h1; cases h1
      · rw [k1, k2] at h; rw [h] at h2; cases h2
      · rw [ltN_trans k h] at h2; cases h2
theorem cmpL_lays (blk off size : Nat) (w : World) : CmpLays Tryd.prog 33 #[] lseC 5 cmpL blk off size w := by
  intro m os dk hd x y
  rw [show #[Value.agg (lseC x).toArray, Value.agg (lseC y).toArray] ++ #[] = #[Value.agg (lseC x).toArray, Value.agg (lseC y).toArray] from rfl]
  exact order_calls x y _
end Go.Proofs.YtlkgdnmfgcmldaaDoor
