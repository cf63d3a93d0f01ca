/- Where a new lease goes, in the comparisons of the reference's Take. -/
import Derived.Test.YtlkgdnmfgcmldaaDoorLea28
import Derived.Sort.Walk0
namespace Go.Proofs.YtlkgdnmfgcmldaaDoor
open Go.RowKit Go.Spk
set_option linter.unusedVariables false
theorem less_of {s s' : ByteArray} (h : s.data.toList < s'.data.toList) : Op.bytesLess s.toList s'.toList = true := by rw [bytesLess_eq, Lib.toList_data, Lib.toList_data]; simpa using h
theorem not_less {s s' : ByteArray} (h : ¬ s.data.toList < s'.data.toList) : Op.bytesLess s.toList s'.toList = false := by rw [bytesLess_eq, Lib.toList_data, Lib.toList_data]; simpa using h
theorem same_str {s s' : ByteArray} (h : s = s') : (s.toList == s'.toList) = true := by rw [h]; simp
/-- Another name than z's lies behind z, or ahead of it. -/
theorem place_of (z y : Lse) (hns : ¬ (y.t = z.t ∧ y.a = z.a)) :
    (ltL z y = true ∧ (Op.bytesLess z.t.toList y.t.toList = true ∨ (Op.bytesLess z.t.toList y.t.toList = false ∧ (z.t.toList == y.t.toList) = true ∧ Op.bytesLess z.a.toList y.a.toList = true))) ∨
    (ltL y z = true ∧ Op.bytesLess z.t.toList y.t.toList = false ∧ ((z.t.toList == y.t.toList) = false ∨ ((z.t.toList == y.t.toList) = true ∧ Op.bytesLess z.a.toList y.a.toList = false))) := by
  by_cases h1 : z.t.data.toList < y.t.data.toList
  · refine .inl ⟨?_, .inl (less_of h1)⟩
    unfold ltL ltN
    simp [h1]
  · by_cases h2 : z.t = y.t
    · by_cases h3 : z.a.data.toList < y.a.data.toList
      · refine .inl ⟨?_, .inr ⟨not_less h1, same_str h2, less_of h3⟩⟩
        unfold ltL ltN
        simp [h2, h3]
      · refine .inr ⟨?_, not_less h1, .inr ⟨same_str h2, not_less h3⟩⟩
        rcases ltN_three y.t y.a z.t z.a with k | k | k
        · exact k
        · exact absurd k hns
        · exfalso
          unfold ltN at k
          simp [h1, h3] at k
    · refine .inr ⟨?_, not_less h1, .inl (str_ne h2)⟩
      rcases ltN_three y.t y.a z.t z.a with k | k | k
      · exact k
      · exact absurd k.1.symm h2
      · exfalso
        unfold ltN at k
        simp [h1, h2] at k
end Go.Proofs.YtlkgdnmfgcmldaaDoor
