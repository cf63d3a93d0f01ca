/- What a name may be: store.Valid. -/
import Derived.Test.YtlkgdnmfgcmldaaDoorLea4
import Derived.LoopTactic
import Derived.Handy
namespace Go.Proofs.YtlkgdnmfgcmldaaDoor
open Go.RowKit Go.Spk
set_option linter.unusedVariables false
/-- Is the byte at i of a name of n bytes one that may be there? -/
def okB (xs : List Int) (n i : Nat) : Bool := ltrB (ix xs i) || (decide (ix xs i = 45) && (decide (0 < i) && decide (i + 1 < n)))
def validB (s : ByteArray) : Bool := decide (1 ≤ s.size) && decide (s.size ≤ 63) && (List.range s.size).all (okB (bI s) s.size)
end Go.Proofs.YtlkgdnmfgcmldaaDoor
