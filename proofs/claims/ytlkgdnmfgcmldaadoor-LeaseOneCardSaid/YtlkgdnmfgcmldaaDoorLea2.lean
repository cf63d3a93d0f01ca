/- The small functions of lease: tick, New. -/
import Derived.Test.YtlkgdnmfgcmldaaDoorLea1
import Derived.Test.YtlkgdnmfgcmldaaDoorCode
namespace Go.Proofs.YtlkgdnmfgcmldaaDoor
open Go.RowKit Go.Spk
set_option linter.unusedVariables false
def tabC (n t l : Int) (b : Nat) (e : Int) : Array Value := #[.int .i64 n, .int .i64 t, .int .i64 l, .map (some b), .int .i64 e]
def tickI (n : Int) : Int := max 0 (min n 1099511627776)
theorem tick_calls (n : Int) (w : World) : Calls Tryd.prog 24 #[.int .i64 n] w fun e w' => e = .returned (.int .i64 (tickI n)) ∧ w' = w := by
  unfold tickI
  go_enter Tryd.func24, Tryd.ntmps24
  go_wp2_with fail
  all_goals go_ret
  all_goals exact ⟨by show Ending.returned (Value.int .i64 _) = Ending.returned (Value.int .i64 _); congr 2; omega, rfl⟩
theorem TabAt.made2 (w : World) (o : Obj) : TabAt ((w.alloc o).alloc (.map #[] 0)) (w.heap.size + 1) [] := by
  have h := TabAt.made (w.alloc o)
  rwa [show (w.alloc o).heap.size = w.heap.size + 1 by simp] at h
set_option maxRecDepth 100000 in
theorem new_calls (n t l : Int) (w : World) : Calls Tryd.prog 8 #[.agg #[.int .i64 n, .int .i64 t, .int .i64 l]] w fun e w' =>
    ∃ b g, e = .returned (.pointer (some ⟨g, 0, none⟩)) ∧ Whole w' g 60 (tabC (max 0 (min n 64)) (max 0 (min t 4096)) (max 1 (min l 1073741824)) b 0) ∧ TabAt w' b [] ∧ Below w.heap.size w w' ∧ w.heap.size ≤ b ∧ w.heap.size ≤ g ∧ b ≠ g := by
  have hmk := @run_makeMap Tryd.prog
  go_enter Tryd.func8, Tryd.ntmps8
  go_wp2_with fail
  all_goals go_ret
  all_goals exact ⟨w.heap.size + 1, w.heap.size + 2, rfl, Whole.new (by simp) (by simp only [tabC, Array.mk.injEq, List.cons.injEq, Value.int.injEq, true_and, and_true]; omega),
    (TabAt.made2 w _).kept (World.grownBy_alloc _ _ none) (by simp), by go_grown, by omega, by omega, by omega⟩
end Go.Proofs.YtlkgdnmfgcmldaaDoor
