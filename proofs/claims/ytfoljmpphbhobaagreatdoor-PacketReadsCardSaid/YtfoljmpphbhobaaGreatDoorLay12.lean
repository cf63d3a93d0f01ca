/- The laid variables of PacketReads: the tables, the errors, the type's handle; a witness world. -/
import Derived.Test.YtfoljmpphbhobaaGreatDoorAs
import Derived.Test.YtfoljmpphbhobaaGreatDoorTab
import Derived.Test.YtfoljmpphbhobaaGreatDoorErr
import Derived.Test.YtfoljmpphbhobaaGreatDoorErrs
import Derived.LaidSub
import Derived.LaidHandle
namespace Go.Proofs.YtfoljmpphbhobaaGreatDoor
open Go.RowKit Go.Spk
theorem gET : Tryz.prog.globalNamed "errors.errorType" = some 20 := by kernel_rfl
theorem etRow : (List.range Tryz.prog.types.size).all (fun ty => !Tryz.prog.rowNamed ty [101, 114, 114, 111, 114] || ty == 36) = true := by kernel_rfl
theorem etCut : (Tryz.prog.cutTypes.find? (·.1 == "internal/reflectlite.rtype")).map (·.2) = some 133 := by kernel_rfl
theorem etName : (Rows.laid_errors_errorType (H := Unit)).handleName? = some [101, 114, 114, 111, 114] := by kernel_rfl
theorem etFuncs : (Rows.laid_errors_errorType (H := Unit)).funcsIn? = none := by kernel_rfl
theorem et_of {W : World} (h : handlesMet Tryz.prog [("errors.errorType", Rows.laid_errors_errorType)] W) : W.cell? ⟨20, 0, none⟩ = some (rtV 36) := by
  have hx := h ("errors.errorType", Rows.laid_errors_errorType) (List.mem_singleton.2 rfl)
  rw [etFuncs] at hx
  obtain ⟨name, u, ty, hn, hu, hty, hr, hv⟩ := hx
  rw [etName] at hn
  obtain rfl := Option.some.inj hn
  rw [etCut] at hu
  obtain rfl := Option.some.inj hu
  have h1 := List.all_eq_true.1 etRow ty (List.mem_range.2 hty)
  rw [hr] at h1
  obtain rfl : ty = 36 := by simpa using h1
  rw [World.var?_cell gET hv 0, asHandle]
  rfl
theorem reads_plain : (Rows.packetReadsRow.laid.filter fun x => x.2.handleName?.isNone) = ("speakeasy/chacha.begin", Rows.laid_speakeasy_chacha_begin) :: ("speakeasy/chacha.order", Rows.laid_speakeasy_chacha_order) :: errL.map errD := by kernel_rfl
theorem reads_handles : (Rows.packetReadsRow.laid.filter fun x => x.2.handleName?.isSome) = [("errors.errorType", Rows.laid_errors_errorType)] := by kernel_rfl
theorem reads_laid {W : World} (h : laidMetH Tryz.prog Rows.packetReadsRow.laid W) :
    laidMet Tryz.prog (("speakeasy/chacha.begin", Rows.laid_speakeasy_chacha_begin) :: ("speakeasy/chacha.order", Rows.laid_speakeasy_chacha_order) :: errL.map errD) W ∧ W.cell? ⟨20, 0, none⟩ = some (rtV 36) := by
  have h2 := laidMetH_iff.1 h
  rw [reads_plain, reads_handles] at h2
  exact ⟨h2.1, et_of h2.2⟩
noncomputable def errWorldT (os : Os) : World := { errWorld os with heap := (errWorld os).heap.modify 20 (layCells #[rtV 36]) }
end Go.Proofs.YtfoljmpphbhobaaGreatDoor
