/- The sentinel errors, as the rows' lists give them; a world for a witness that holds them and chacha's tables. -/
import Derived.Test.YtfoljmpphbhobaaGreatDoorTab
import Derived.Stop.LaidErr
import Derived.Stop.ErrReads
import Derived.RowKitTokens
namespace Go.Proofs.YtfoljmpphbhobaaGreatDoor
open Go.ChangeShapes Go.WideShapes Go.ChangeAt Go.RowKit Go.Spk
theorem starE : "*" ++ "errors.errorString" = "*errors.errorString" := by decide
theorem rowE (u : TypeId) (h : Tryz.prog.typeName? 3 u = some "*errors.errorString") : u = 187 :=
  typeName_ptr_named (nm := "errors.errorString") (by rw [starE]; kernel_rfl) (by kernel_rfl) (by decide) u (by rw [starE]; exact h)
theorem cellsE : Tryz.prog.cellsOf 205 = 1 := by kernel_rfl
theorem cellsS : Tryz.prog.cellsOf 9 = 1 := by kernel_rfl
/-- A sentinel at the head of the list: its variable holds a pointer that is not nil. -/
theorem err_of {n : String} {text : List UInt8} {r : List (String × DataW Unit)} {W : World} {g : Nat} (hg : Tryz.prog.globalNamed n = some g) (ht : (Tryz.prog.globals[g]?).map (·.type) = some 36)
    (h : laidMet Tryz.prog ((n, .iface "*errors.errorString" (.ptr (.agg [.lit (.string text)]))) :: r) W) :
    ∃ a : Addr, W.cell? ⟨g, 0, none⟩ = some (.iface 187 (.pointer (some a))) := by
  obtain ⟨a, s, hv, _⟩ := laid_sentinel h hg ht Tryz.underlying36 rowE Tryz.underlying187 Tryz.underlying205 rfl rfl Tryz.underlying9 cellsE cellsS
  exact ⟨a, by rw [World.var?_cell hg hv 0]; rfl⟩
theorem gErrArg : Tryz.prog.globalNamed "speakeasy/api.ErrArg" = some 2 := by kernel_rfl
theorem tErrArg : (Tryz.prog.globals[2]?).map (·.type) = some 36 := by kernel_rfl
theorem gErrEnd : Tryz.prog.globalNamed "speakeasy/api.ErrEnd" = some 0 := by kernel_rfl
theorem tErrEnd : (Tryz.prog.globals[0]?).map (·.type) = some 36 := by kernel_rfl
theorem gErrForm : Tryz.prog.globalNamed "speakeasy/api.ErrForm" = some 3 := by kernel_rfl
theorem tErrForm : (Tryz.prog.globals[3]?).map (·.type) = some 36 := by kernel_rfl
theorem gErrBig : Tryz.prog.globalNamed "speakeasy/api.ErrBig" = some 1 := by kernel_rfl
theorem tErrBig : (Tryz.prog.globals[1]?).map (·.type) = some 36 := by kernel_rfl
theorem gErrMac : Tryz.prog.globalNamed "speakeasy/api.ErrMac" = some 4 := by kernel_rfl
theorem tErrMac : (Tryz.prog.globals[4]?).map (·.type) = some 36 := by kernel_rfl
theorem gErrState : Tryz.prog.globalNamed "speakeasy/api.ErrState" = some 5 := by kernel_rfl
theorem tErrState : (Tryz.prog.globals[5]?).map (·.type) = some 36 := by kernel_rfl
theorem gErrFull : Tryz.prog.globalNamed "speakeasy/api.ErrFull" = some 6 := by kernel_rfl
theorem tErrFull : (Tryz.prog.globals[6]?).map (·.type) = some 36 := by kernel_rfl
theorem gErrNone : Tryz.prog.globalNamed "speakeasy/api.ErrNone" = some 7 := by kernel_rfl
theorem tErrNone : (Tryz.prog.globals[7]?).map (·.type) = some 36 := by kernel_rfl
theorem gErrHave : Tryz.prog.globalNamed "speakeasy/api.ErrHave" = some 8 := by kernel_rfl
theorem tErrHave : (Tryz.prog.globals[8]?).map (·.type) = some 36 := by kernel_rfl
theorem gErrKey : Tryz.prog.globalNamed "speakeasy/api.ErrKey" = some 9 := by kernel_rfl
theorem tErrKey : (Tryz.prog.globals[9]?).map (·.type) = some 36 := by kernel_rfl
theorem gErrSign : Tryz.prog.globalNamed "speakeasy/api.ErrSign" = some 10 := by kernel_rfl
theorem tErrSign : (Tryz.prog.globals[10]?).map (·.type) = some 36 := by kernel_rfl
theorem gErrVersion : Tryz.prog.globalNamed "speakeasy/api.ErrVersion" = some 11 := by kernel_rfl
theorem tErrVersion : (Tryz.prog.globals[11]?).map (·.type) = some 36 := by kernel_rfl
theorem gErrAlgo : Tryz.prog.globalNamed "speakeasy/api.ErrAlgo" = some 12 := by kernel_rfl
theorem tErrAlgo : (Tryz.prog.globals[12]?).map (·.type) = some 36 := by kernel_rfl
theorem gErrHost : Tryz.prog.globalNamed "speakeasy/api.ErrHost" = some 13 := by kernel_rfl
theorem tErrHost : (Tryz.prog.globals[13]?).map (·.type) = some 36 := by kernel_rfl
theorem gErrAuth : Tryz.prog.globalNamed "speakeasy/api.ErrAuth" = some 14 := by kernel_rfl
theorem tErrAuth : (Tryz.prog.globals[14]?).map (·.type) = some 36 := by kernel_rfl
theorem gErrQuota : Tryz.prog.globalNamed "speakeasy/api.ErrQuota" = some 15 := by kernel_rfl
theorem tErrQuota : (Tryz.prog.globals[15]?).map (·.type) = some 36 := by kernel_rfl
theorem gErrName : Tryz.prog.globalNamed "speakeasy/api.ErrName" = some 16 := by kernel_rfl
theorem tErrName : (Tryz.prog.globals[16]?).map (·.type) = some 36 := by kernel_rfl
theorem gErrGone : Tryz.prog.globalNamed "speakeasy/api.ErrGone" = some 17 := by kernel_rfl
theorem tErrGone : (Tryz.prog.globals[17]?).map (·.type) = some 36 := by kernel_rfl
theorem gErrWindow : Tryz.prog.globalNamed "speakeasy/api.ErrWindow" = some 18 := by kernel_rfl
theorem tErrWindow : (Tryz.prog.globals[18]?).map (·.type) = some 36 := by kernel_rfl
theorem gErrKind : Tryz.prog.globalNamed "speakeasy/api.ErrKind" = some 19 := by kernel_rfl
theorem tErrKind : (Tryz.prog.globals[19]?).map (·.type) = some 36 := by kernel_rfl
noncomputable def low : Nat := (World.holding Tryz.prog default ⟨#[], #[], []⟩).heap.size
noncomputable def errWorld (os : Os) : World :=
  let w := World.holding Tryz.prog os ⟨#[.cells #[.string ⟨#[97, 110, 32, 97, 114, 103, 117, 109, 101, 110, 116, 32, 116, 104, 97, 116, 32, 109, 97, 121, 32, 110, 111, 116, 32, 98, 101]⟩] 205, .cells #[.string ⟨#[98, 121, 116, 101, 115, 32, 97, 114, 101, 32, 119, 97, 110, 116, 105, 110, 103]⟩] 205, .cells #[.string ⟨#[98, 121, 116, 101, 115, 32, 116, 104, 97, 116, 32, 115, 97, 121, 32, 110, 111, 116, 104, 105, 110, 103]⟩] 205, .cells #[.string ⟨#[109, 111, 114, 101, 32, 116, 104, 97, 110, 32, 116, 104, 101, 114, 101, 32, 109, 97, 121, 32, 98, 101]⟩] 205, .cells #[.string ⟨#[97, 32, 115, 117, 109, 32, 116, 104, 97, 116, 32, 100, 111, 101, 115, 110, 39, 116, 32, 102, 105, 116]⟩] 205, .cells #[.string ⟨#[110, 111, 116, 32, 110, 111, 119]⟩] 205, .cells #[.string ⟨#[116, 104, 101, 114, 101, 32, 105, 115, 32, 110, 111, 32, 114, 111, 111, 109]⟩] 205, .cells #[.string ⟨#[116, 104, 101, 114, 101, 32, 105, 115, 32, 110, 111, 110, 101]⟩] 205, .cells #[.string ⟨#[105, 116, 32, 105, 115, 32, 116, 104, 101, 114, 101, 32, 97, 108, 114, 101, 97, 100, 121]⟩] 205, .cells #[.string ⟨#[97, 32, 107, 101, 121, 32, 116, 104, 97, 116, 32, 109, 97, 121, 32, 110, 111, 116, 32, 98, 101]⟩] 205, .cells #[.string ⟨#[97, 32, 115, 105, 103, 110, 97, 116, 117, 114, 101, 32, 116, 104, 97, 116, 32, 100, 111, 101, 115, 110, 39, 116, 32, 102, 105, 116]⟩] 205, .cells #[.string ⟨#[97, 110, 111, 116, 104, 101, 114, 32, 118, 101, 114, 115, 105, 111, 110]⟩] 205, .cells #[.string ⟨#[110, 111, 116, 104, 105, 110, 103, 32, 105, 110, 32, 99, 111, 109, 109, 111, 110]⟩] 205, .cells #[.string ⟨#[97, 110, 111, 116, 104, 101, 114, 32, 104, 111, 115, 116, 39, 115, 32, 107, 101, 121]⟩] 205, .cells #[.string ⟨#[105, 116, 32, 109, 97, 121, 32, 110, 111, 116, 32, 99, 111, 109, 101, 32, 105, 110]⟩] 205, .cells #[.string ⟨#[109, 111, 114, 101, 32, 116, 104, 97, 110, 32, 105, 116, 115, 32, 115, 104, 97, 114, 101]⟩] 205, .cells #[.string ⟨#[97, 32, 110, 97, 109, 101, 32, 116, 104, 97, 116, 32, 109, 97, 121, 32, 110, 111, 116, 32, 98, 101]⟩] 205, .cells #[.string ⟨#[105, 116, 32, 105, 115, 32, 103, 111, 110, 101]⟩] 205, .cells #[.string ⟨#[98, 101, 121, 111, 110, 100, 32, 116, 104, 101, 32, 119, 105, 110, 100, 111, 119]⟩] 205, .cells #[.string ⟨#[116, 104, 101, 114, 101, 32, 105, 115, 32, 110, 111, 32, 115, 117, 99, 104, 32, 107, 105, 110, 100]⟩] 205], #[], []⟩
  { w with heap := (((((((((((((((((((((w.heap.modify 21 (layCells #[.int .u32 1634760805, .int .u32 857760878, .int .u32 2036477234, .int .u32 1797285236])).modify 22 (layCells orderC.toArray)).modify 2 (layCells #[.iface 187 (.pointer (some ⟨low + 0, 0, none⟩))])).modify 0 (layCells #[.iface 187 (.pointer (some ⟨low + 1, 0, none⟩))])).modify 3 (layCells #[.iface 187 (.pointer (some ⟨low + 2, 0, none⟩))])).modify 1 (layCells #[.iface 187 (.pointer (some ⟨low + 3, 0, none⟩))])).modify 4 (layCells #[.iface 187 (.pointer (some ⟨low + 4, 0, none⟩))])).modify 5 (layCells #[.iface 187 (.pointer (some ⟨low + 5, 0, none⟩))])).modify 6 (layCells #[.iface 187 (.pointer (some ⟨low + 6, 0, none⟩))])).modify 7 (layCells #[.iface 187 (.pointer (some ⟨low + 7, 0, none⟩))])).modify 8 (layCells #[.iface 187 (.pointer (some ⟨low + 8, 0, none⟩))])).modify 9 (layCells #[.iface 187 (.pointer (some ⟨low + 9, 0, none⟩))])).modify 10 (layCells #[.iface 187 (.pointer (some ⟨low + 10, 0, none⟩))])).modify 11 (layCells #[.iface 187 (.pointer (some ⟨low + 11, 0, none⟩))])).modify 12 (layCells #[.iface 187 (.pointer (some ⟨low + 12, 0, none⟩))])).modify 13 (layCells #[.iface 187 (.pointer (some ⟨low + 13, 0, none⟩))])).modify 14 (layCells #[.iface 187 (.pointer (some ⟨low + 14, 0, none⟩))])).modify 15 (layCells #[.iface 187 (.pointer (some ⟨low + 15, 0, none⟩))])).modify 16 (layCells #[.iface 187 (.pointer (some ⟨low + 16, 0, none⟩))])).modify 17 (layCells #[.iface 187 (.pointer (some ⟨low + 17, 0, none⟩))])).modify 18 (layCells #[.iface 187 (.pointer (some ⟨low + 18, 0, none⟩))])).modify 19 (layCells #[.iface 187 (.pointer (some ⟨low + 19, 0, none⟩))]) }
end Go.Proofs.YtfoljmpphbhobaaGreatDoor
