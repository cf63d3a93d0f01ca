/- The law's step as a whole, both ways. -/
import Derived.Test.YtlkgdnmfgcmldaaDoorSpP0
import Derived.Test.YtlkgdnmfgcmldaaDoorSpP1
import Derived.Test.YtlkgdnmfgcmldaaDoorSpP2
import Derived.Test.YtlkgdnmfgcmldaaDoorSpP3
import Derived.Test.YtlkgdnmfgcmldaaDoorSpP4
import Derived.Test.YtlkgdnmfgcmldaaDoorSpP5
namespace Go.Proofs.YtlkgdnmfgcmldaaDoor
open Go.RowKit Go.Spk
set_option linter.unusedVariables false
theorem step_plays (E : Nat → Addr) (w0 w : World) (g b : Nat) (n tt l ep : Int) (L : List Lse) (B : Nat) (v : Value) (x : Act) (hx : x.t.size ≤ maxLen ∧ x.a.size ≤ maxLen) (hL : L.length ≤ 100000) (he : 0 ≤ ep ∧ ep ≤ 1000000) (hE : Errs w0 E) (hB : g < B ∧ b < B ∧ B ≤ w.heap.size) (hH : Hold w0 w g b n tt l ep L) (hv : Lows w B 71 v L) :
    Calls Tryd.prog 15 #[.pointer (some ⟨g, 0, none⟩), refV n tt l ep v, .agg (actC x).toArray] w (StepP w0 w g b n tt l B (stepM n tt l ep L x)) := by
  by_cases h1 : x.k = 1
  · exact step1P E w0 w g b n tt l ep L B v x hx hL he hE hB hH hv h1
  by_cases h2 : x.k = 2
  · exact step2P E w0 w g b n tt l ep L B v x hx hL he hE hB hH hv h2
  by_cases h3 : x.k = 3
  · exact step3P E w0 w g b n tt l ep L B v x hx hL he hE hB hH hv h3
  by_cases h4 : x.k = 4
  · exact step4P E w0 w g b n tt l ep L B v x hx hL he hE hB hH hv h4
  by_cases h5 : x.k = 5
  · exact step5P E w0 w g b n tt l ep L B v x hx hL he hE hB hH hv h5
  · exact step0P E w0 w g b n tt l ep L B v x hx hL he hE hB hH hv (by omega)
theorem stepM_ok (n tt l ep : Int) {L : List Lse} (x : Act) (hA : Asc L) (hl : ∀ y ∈ L, 0 ≤ y.l ∧ y.l ≤ 1099511627776) :
    (stepM n tt l ep L x).1.length ≤ L.length + 1 ∧ ep ≤ (stepM n tt l ep L x).2 ∧ (stepM n tt l ep L x).2 ≤ ep + 1 := by
  obtain ⟨_, _, t1, t2, t3⟩ := takeM_ok n tt ep (cutB x.t 70) (cutB x.a 70) x.o x.n hA hl
  unfold stepM
  split
  · exact ⟨Nat.le_succ _, Int.le_refl _, by show ep ≤ ep + 1; omega⟩
  split
  · refine ⟨?_, Int.le_refl _, by show ep ≤ ep + 1; omega⟩
    show (cancelM L _ _ _).1.length ≤ _
    unfold cancelM
    split
    · split
      · exact Nat.le_succ_of_le (List.length_filter_le _ _)
      · exact Nat.le_succ _
    · exact Nat.le_succ _
  split
  · exact ⟨by show (L.map _).length ≤ _; rw [List.length_map]; exact Nat.le_succ _, Int.le_refl _, by show ep ≤ ep + 1; omega⟩
  split
  · exact ⟨Nat.le_succ_of_le (List.length_filter_le _ _), Int.le_refl _, by show ep ≤ ep + 1; omega⟩
  split
  · exact ⟨Nat.le_succ_of_le (List.length_filter_le _ _), Int.le_refl _, by show ep ≤ ep + 1; omega⟩
  · exact ⟨t1, t2, t3⟩
end Go.Proofs.YtlkgdnmfgcmldaaDoor
