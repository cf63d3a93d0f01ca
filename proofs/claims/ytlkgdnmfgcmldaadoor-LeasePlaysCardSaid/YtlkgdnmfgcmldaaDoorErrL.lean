/- The sentinel errors, as the rows' lists give them; a world for a witness that holds them. -/
import Derived.Test.YtlkgdnmfgcmldaaDoorA1
import Derived.Test.YtlkgdnmfgcmldaaDoorRows
import Derived.WalkKit
import Derived.ProofKit
import Derived.OpenShut
import Derived.Deep.DeepHandedRow
import Derived.Lib.LaidTab
import Derived.Stop.LaidErr
import Derived.Stop.ErrReads
import Derived.RowKitTokens
namespace Go.Proofs.YtlkgdnmfgcmldaaDoor
open Go.ChangeShapes Go.WideShapes Go.ChangeAt Go.RowKit Go.Spk
theorem own : ownKnob Tryd.prog.godebug = none := by kernel_rfl
theorem cellsi : Tryd.prog.cellsOf 3 = 1 := by kernel_rfl
theorem starE : "*" ++ "errors.errorString" = "*errors.errorString" := by decide
theorem rowE (u : TypeId) (h : Tryd.prog.typeName? 3 u = some "*errors.errorString") : u = 122 :=
  typeName_ptr_named (nm := "errors.errorString") (by rw [starE]; kernel_rfl) (by kernel_rfl) (by decide) u (by rw [starE]; exact h)
theorem cellsE : Tryd.prog.cellsOf 147 = 1 := by kernel_rfl
theorem cellsS : Tryd.prog.cellsOf 9 = 1 := by kernel_rfl
/-- A sentinel at the head of the list: its variable holds a pointer that is not nil. -/
theorem err_of {n : String} {text : List UInt8} {r : List (String × DataW Unit)} {W : World} {g : Nat} (hg : Tryd.prog.globalNamed n = some g) (ht : (Tryd.prog.globals[g]?).map (·.type) = some 31)
    (h : laidMet Tryd.prog ((n, .iface "*errors.errorString" (.ptr (.agg [.lit (.string text)]))) :: r) W) :
    ∃ a : Addr, W.cell? ⟨g, 0, none⟩ = some (.iface 122 (.pointer (some a))) := by
  obtain ⟨a, s, hv, _⟩ := laid_sentinel h hg ht Tryd.underlying31 rowE Tryd.underlying122 Tryd.underlying147 rfl rfl Tryd.underlying9 cellsE cellsS
  exact ⟨a, by rw [World.var?_cell hg hv 0]; rfl⟩
theorem gErrArg : Tryd.prog.globalNamed "speakeasy/api.ErrArg" = some 5 := by kernel_rfl
theorem tErrArg : (Tryd.prog.globals[5]?).map (·.type) = some 31 := by kernel_rfl
theorem gErrEnd : Tryd.prog.globalNamed "speakeasy/api.ErrEnd" = some 6 := by kernel_rfl
theorem tErrEnd : (Tryd.prog.globals[6]?).map (·.type) = some 31 := by kernel_rfl
theorem gErrForm : Tryd.prog.globalNamed "speakeasy/api.ErrForm" = some 7 := by kernel_rfl
theorem tErrForm : (Tryd.prog.globals[7]?).map (·.type) = some 31 := by kernel_rfl
theorem gErrBig : Tryd.prog.globalNamed "speakeasy/api.ErrBig" = some 8 := by kernel_rfl
theorem tErrBig : (Tryd.prog.globals[8]?).map (·.type) = some 31 := by kernel_rfl
theorem gErrMac : Tryd.prog.globalNamed "speakeasy/api.ErrMac" = some 9 := by kernel_rfl
theorem tErrMac : (Tryd.prog.globals[9]?).map (·.type) = some 31 := by kernel_rfl
theorem gErrState : Tryd.prog.globalNamed "speakeasy/api.ErrState" = some 10 := by kernel_rfl
theorem tErrState : (Tryd.prog.globals[10]?).map (·.type) = some 31 := by kernel_rfl
theorem gErrFull : Tryd.prog.globalNamed "speakeasy/api.ErrFull" = some 3 := by kernel_rfl
theorem tErrFull : (Tryd.prog.globals[3]?).map (·.type) = some 31 := by kernel_rfl
theorem gErrNone : Tryd.prog.globalNamed "speakeasy/api.ErrNone" = some 4 := by kernel_rfl
theorem tErrNone : (Tryd.prog.globals[4]?).map (·.type) = some 31 := by kernel_rfl
theorem gErrHave : Tryd.prog.globalNamed "speakeasy/api.ErrHave" = some 1 := by kernel_rfl
theorem tErrHave : (Tryd.prog.globals[1]?).map (·.type) = some 31 := by kernel_rfl
theorem gErrKey : Tryd.prog.globalNamed "speakeasy/api.ErrKey" = some 11 := by kernel_rfl
theorem tErrKey : (Tryd.prog.globals[11]?).map (·.type) = some 31 := by kernel_rfl
theorem gErrSign : Tryd.prog.globalNamed "speakeasy/api.ErrSign" = some 12 := by kernel_rfl
theorem tErrSign : (Tryd.prog.globals[12]?).map (·.type) = some 31 := by kernel_rfl
theorem gErrVersion : Tryd.prog.globalNamed "speakeasy/api.ErrVersion" = some 13 := by kernel_rfl
theorem tErrVersion : (Tryd.prog.globals[13]?).map (·.type) = some 31 := by kernel_rfl
theorem gErrAlgo : Tryd.prog.globalNamed "speakeasy/api.ErrAlgo" = some 14 := by kernel_rfl
theorem tErrAlgo : (Tryd.prog.globals[14]?).map (·.type) = some 31 := by kernel_rfl
theorem gErrHost : Tryd.prog.globalNamed "speakeasy/api.ErrHost" = some 15 := by kernel_rfl
theorem tErrHost : (Tryd.prog.globals[15]?).map (·.type) = some 31 := by kernel_rfl
theorem gErrAuth : Tryd.prog.globalNamed "speakeasy/api.ErrAuth" = some 16 := by kernel_rfl
theorem tErrAuth : (Tryd.prog.globals[16]?).map (·.type) = some 31 := by kernel_rfl
theorem gErrQuota : Tryd.prog.globalNamed "speakeasy/api.ErrQuota" = some 2 := by kernel_rfl
theorem tErrQuota : (Tryd.prog.globals[2]?).map (·.type) = some 31 := by kernel_rfl
theorem gErrName : Tryd.prog.globalNamed "speakeasy/api.ErrName" = some 0 := by kernel_rfl
theorem tErrName : (Tryd.prog.globals[0]?).map (·.type) = some 31 := by kernel_rfl
theorem gErrGone : Tryd.prog.globalNamed "speakeasy/api.ErrGone" = some 17 := by kernel_rfl
theorem tErrGone : (Tryd.prog.globals[17]?).map (·.type) = some 31 := by kernel_rfl
theorem gErrWindow : Tryd.prog.globalNamed "speakeasy/api.ErrWindow" = some 18 := by kernel_rfl
theorem tErrWindow : (Tryd.prog.globals[18]?).map (·.type) = some 31 := by kernel_rfl
theorem gErrKind : Tryd.prog.globalNamed "speakeasy/api.ErrKind" = some 19 := by kernel_rfl
theorem tErrKind : (Tryd.prog.globals[19]?).map (·.type) = some 31 := by kernel_rfl
noncomputable def low : Nat := (World.holding Tryd.prog default ⟨#[], #[], []⟩).heap.size
noncomputable def errWorld (os : Os) : World :=
  let w := World.holding Tryd.prog os ⟨#[.cells #[.string ⟨#[97, 110, 32, 97, 114, 103, 117, 109, 101, 110, 116, 32, 116, 104, 97, 116, 32, 109, 97, 121, 32, 110, 111, 116, 32, 98, 101]⟩] 147, .cells #[.string ⟨#[98, 121, 116, 101, 115, 32, 97, 114, 101, 32, 119, 97, 110, 116, 105, 110, 103]⟩] 147, .cells #[.string ⟨#[98, 121, 116, 101, 115, 32, 116, 104, 97, 116, 32, 115, 97, 121, 32, 110, 111, 116, 104, 105, 110, 103]⟩] 147, .cells #[.string ⟨#[109, 111, 114, 101, 32, 116, 104, 97, 110, 32, 116, 104, 101, 114, 101, 32, 109, 97, 121, 32, 98, 101]⟩] 147, .cells #[.string ⟨#[97, 32, 115, 117, 109, 32, 116, 104, 97, 116, 32, 100, 111, 101, 115, 110, 39, 116, 32, 102, 105, 116]⟩] 147, .cells #[.string ⟨#[110, 111, 116, 32, 110, 111, 119]⟩] 147, .cells #[.string ⟨#[116, 104, 101, 114, 101, 32, 105, 115, 32, 110, 111, 32, 114, 111, 111, 109]⟩] 147, .cells #[.string ⟨#[116, 104, 101, 114, 101, 32, 105, 115, 32, 110, 111, 110, 101]⟩] 147, .cells #[.string ⟨#[105, 116, 32, 105, 115, 32, 116, 104, 101, 114, 101, 32, 97, 108, 114, 101, 97, 100, 121]⟩] 147, .cells #[.string ⟨#[97, 32, 107, 101, 121, 32, 116, 104, 97, 116, 32, 109, 97, 121, 32, 110, 111, 116, 32, 98, 101]⟩] 147, .cells #[.string ⟨#[97, 32, 115, 105, 103, 110, 97, 116, 117, 114, 101, 32, 116, 104, 97, 116, 32, 100, 111, 101, 115, 110, 39, 116, 32, 102, 105, 116]⟩] 147, .cells #[.string ⟨#[97, 110, 111, 116, 104, 101, 114, 32, 118, 101, 114, 115, 105, 111, 110]⟩] 147, .cells #[.string ⟨#[110, 111, 116, 104, 105, 110, 103, 32, 105, 110, 32, 99, 111, 109, 109, 111, 110]⟩] 147, .cells #[.string ⟨#[97, 110, 111, 116, 104, 101, 114, 32, 104, 111, 115, 116, 39, 115, 32, 107, 101, 121]⟩] 147, .cells #[.string ⟨#[105, 116, 32, 109, 97, 121, 32, 110, 111, 116, 32, 99, 111, 109, 101, 32, 105, 110]⟩] 147, .cells #[.string ⟨#[109, 111, 114, 101, 32, 116, 104, 97, 110, 32, 105, 116, 115, 32, 115, 104, 97, 114, 101]⟩] 147, .cells #[.string ⟨#[97, 32, 110, 97, 109, 101, 32, 116, 104, 97, 116, 32, 109, 97, 121, 32, 110, 111, 116, 32, 98, 101]⟩] 147, .cells #[.string ⟨#[105, 116, 32, 105, 115, 32, 103, 111, 110, 101]⟩] 147, .cells #[.string ⟨#[98, 101, 121, 111, 110, 100, 32, 116, 104, 101, 32, 119, 105, 110, 100, 111, 119]⟩] 147, .cells #[.string ⟨#[116, 104, 101, 114, 101, 32, 105, 115, 32, 110, 111, 32, 115, 117, 99, 104, 32, 107, 105, 110, 100]⟩] 147], #[], []⟩
  { w with heap := ((((((((((((((((((((w.heap).modify 5 (layCells #[.iface 122 (.pointer (some ⟨low + 0, 0, none⟩))])).modify 6 (layCells #[.iface 122 (.pointer (some ⟨low + 1, 0, none⟩))])).modify 7 (layCells #[.iface 122 (.pointer (some ⟨low + 2, 0, none⟩))])).modify 8 (layCells #[.iface 122 (.pointer (some ⟨low + 3, 0, none⟩))])).modify 9 (layCells #[.iface 122 (.pointer (some ⟨low + 4, 0, none⟩))])).modify 10 (layCells #[.iface 122 (.pointer (some ⟨low + 5, 0, none⟩))])).modify 3 (layCells #[.iface 122 (.pointer (some ⟨low + 6, 0, none⟩))])).modify 4 (layCells #[.iface 122 (.pointer (some ⟨low + 7, 0, none⟩))])).modify 1 (layCells #[.iface 122 (.pointer (some ⟨low + 8, 0, none⟩))])).modify 11 (layCells #[.iface 122 (.pointer (some ⟨low + 9, 0, none⟩))])).modify 12 (layCells #[.iface 122 (.pointer (some ⟨low + 10, 0, none⟩))])).modify 13 (layCells #[.iface 122 (.pointer (some ⟨low + 11, 0, none⟩))])).modify 14 (layCells #[.iface 122 (.pointer (some ⟨low + 12, 0, none⟩))])).modify 15 (layCells #[.iface 122 (.pointer (some ⟨low + 13, 0, none⟩))])).modify 16 (layCells #[.iface 122 (.pointer (some ⟨low + 14, 0, none⟩))])).modify 2 (layCells #[.iface 122 (.pointer (some ⟨low + 15, 0, none⟩))])).modify 0 (layCells #[.iface 122 (.pointer (some ⟨low + 16, 0, none⟩))])).modify 17 (layCells #[.iface 122 (.pointer (some ⟨low + 17, 0, none⟩))])).modify 18 (layCells #[.iface 122 (.pointer (some ⟨low + 18, 0, none⟩))])).modify 19 (layCells #[.iface 122 (.pointer (some ⟨low + 19, 0, none⟩))]) }
end Go.Proofs.YtlkgdnmfgcmldaaDoor
