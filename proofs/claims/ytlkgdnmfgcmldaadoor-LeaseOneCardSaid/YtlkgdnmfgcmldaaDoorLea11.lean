/- The order of leases as the program compares them: cmp.Compare at strings, cmp.Or, the function that All hands to the sort. -/
import Derived.Test.YtlkgdnmfgcmldaaDoorLea10
import Derived.LoopTactic
import Derived.Handy
import Derived.Outline
import Derived.Lib.Strings
import Derived.WalkLawsBesides
import Derived.Sort.Walk0
import Derived.Deep.RegionHeld3
import Derived.Deep.RegionWith
import Derived.Lib.Hide
namespace Go.Proofs.YtlkgdnmfgcmldaaDoor
open Go.RowKit Go.Spk Go.Sort
set_option linter.unusedVariables false
def cmpS (x y : ByteArray) : Int := if x.data.toList < y.data.toList then -1 else if y.data.toList < x.data.toList then 1 else 0
def cmpL (x y : Lse) : Int := if cmpS x.t y.t ≠ 0 then cmpS x.t y.t else cmpS x.a y.a
theorem nan_calls (s : ByteArray) (w : World) : Calls Tryd.prog 44 #[.string s] w fun e w' => e = .returned (.bool false) ∧ w = w' := by
  go_enter Tryd.func44, Tryd.ntmps44
  go_wp2_with fail
  go_ret
  exact ⟨rfl, rfl⟩
theorem cmpS_calls (x y : ByteArray) (w : World) : Calls Tryd.prog 35 #[.string x, .string y] w fun e w' => e = .returned (.int .i64 (cmpS x y)) ∧ w = w' := by
  obtain ⟨r, hr⟩ : ∃ r, r = cmpS x y := ⟨_, rfl⟩
  rw [← hr]
  unfold cmpS at hr
  by_cases h1 : x.data.toList < y.data.toList
  · have e1 : Op.bytesLess x.toList y.toList = true := by rw [bytesLess_eq, Lib.toList_data, Lib.toList_data]; simpa using h1
    rw [if_pos h1] at hr
    subst hr
    clear h1
    go_enter Tryd.func35, Tryd.ntmps35
    go_wp2_with (go_at_call 44; refine (nan_calls _ _).mono ?_; rintro e w' ⟨rfl, rfl⟩)
    go_ret
    exact ⟨rfl, rfl⟩
  · have e1 : Op.bytesLess x.toList y.toList = false := by rw [bytesLess_eq, Lib.toList_data, Lib.toList_data]; simpa using h1
    rw [if_neg h1] at hr
    by_cases h2 : y.data.toList < x.data.toList
    · have e2 : (x.toList == y.toList) = false := by
        rw [beq_eq_false_iff_ne, Lib.toList_data, Lib.toList_data]
        intro e
        rw [e] at h2
        exact List.lt_irrefl _ h2
      rw [if_pos h2] at hr
      subst hr
      clear h1 h2
      go_enter Tryd.func35, Tryd.ntmps35
      go_wp2_with (go_at_call 44; refine (nan_calls _ _).mono ?_; rintro e w' ⟨rfl, rfl⟩)
      go_ret
      exact ⟨rfl, rfl⟩
    · have e2 : (x.toList == y.toList) = true := by
        rw [beq_iff_eq, Lib.toList_data, Lib.toList_data]
        exact List.le_antisymm (List.not_lt.1 h2) (List.not_lt.1 h1)
      rw [if_neg h2] at hr
      subst hr
      clear h1 h2
      go_enter Tryd.func35, Tryd.ntmps35
      go_wp2_with (go_at_call 44; refine (nan_calls _ _).mono ?_; rintro e w' ⟨rfl, rfl⟩)
      go_ret
      exact ⟨rfl, rfl⟩
theorem or_calls (g c : Nat) (x y : Int) (w : World) (h0 : w.cell? ⟨g, 0, none⟩ = some (.int .i64 x)) (h1 : w.cell? ⟨g, 1, none⟩ = some (.int .i64 y)) :
    Calls Tryd.prog 34 #[.slice (some ⟨g, 0, none⟩) 2 c] w fun e w' => e = .returned (.int .i64 (if x ≠ 0 then x else y)) ∧ w = w' := by
  obtain ⟨r, hr⟩ : ∃ r, r = if x ≠ 0 then x else y := ⟨_, rfl⟩
  rw [← hr]
  by_cases hx : x = 0
  · have ex : (x == 0) = true := by simpa using hx
    rw [if_neg (by simpa using hx)] at hr
    subst hr
    subst hx
    by_cases hy : r = 0
    · subst hy
      go_enter Tryd.func34, Tryd.ntmps34
      go_wp2_with fail
      refine wp_loop_rounds 3 ?_
      rw [rounds_succ]
      go_wp2_with fail
      rw [rounds_succ]
      go_wp2_with fail
      rw [rounds_succ]
      go_wp2_with fail
      go_ret
      exact ⟨rfl, rfl⟩
    · go_enter Tryd.func34, Tryd.ntmps34
      go_wp2_with fail
      refine wp_loop_rounds 2 ?_
      rw [rounds_succ]
      go_wp2_with fail
      rw [rounds_succ]
      go_wp2_with fail
      go_ret
      exact ⟨rfl, rfl⟩
  · rw [if_pos hx] at hr
    subst hr
    go_enter Tryd.func34, Tryd.ntmps34
    go_wp2_with fail
    refine wp_loop_rounds 1 ?_
    rw [rounds_succ]
    go_wp2_with fail
    go_ret
    exact ⟨rfl, rfl⟩
end Go.Proofs.YtlkgdnmfgcmldaaDoor
