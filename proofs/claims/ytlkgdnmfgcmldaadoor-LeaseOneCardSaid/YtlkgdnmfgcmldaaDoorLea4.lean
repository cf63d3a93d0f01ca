/- What a name may be: store.letter. -/
import Derived.Test.YtlkgdnmfgcmldaaDoorLea3
namespace Go.Proofs.YtlkgdnmfgcmldaaDoor
open Go.RowKit Go.Spk
set_option linter.unusedVariables false
def ltrB (b : Int) : Bool := (decide (97 ≤ b) && decide (b ≤ 122)) || (decide (48 ≤ b) && decide (b ≤ 57))
theorem letter_calls (b : Int) (w : World) : Calls Tryd.prog 37 #[.int .u8 b] w fun e w' => e = .returned (.bool (ltrB b)) ∧ w' = w := by
  by_cases h1 : 97 ≤ b <;> by_cases h2 : b ≤ 122 <;> by_cases h3 : 48 ≤ b <;> by_cases h4 : b ≤ 57
  all_goals try (exfalso; omega)
  all_goals
    first
      | (have hl : ltrB b = true := by unfold ltrB; simp [h1, h2, h3, h4]
         rw [hl])
      | (have hl : ltrB b = false := by unfold ltrB; simp [h1, h2, h3, h4]
         rw [hl])
    go_enter Tryd.func37, Tryd.ntmps37
    go_wp2_with fail
    go_ret
    exact ⟨rfl, rfl⟩
end Go.Proofs.YtlkgdnmfgcmldaaDoor
