/- wire.In: bytes that are read; where enough are there. -/
import Derived.Test.YtfoljmpphbhobaaGreatDoorWireX
namespace Go.Proofs.YtfoljmpphbhobaaGreatDoor
open Go.RowKit Go.Spk
set_option linter.unusedVariables false
set_option maxHeartbeats 2000000 in
theorem wireOf_calls (s : ByteArray) (w : World) :
    Calls Tryz.prog 33 #[.string s] w fun e w' => e = .returned (.pointer (some ⟨w.heap.size, 0, none⟩)) ∧ w' = w.alloc (.cells #[.string s, .nilIface] 108) := by
  go_enter Tryz.func33, Tryz.ntmps33
  go_wp2
  go_ret
  exact ⟨rfl, rfl⟩
set_option maxHeartbeats 2000000 in
theorem inRaw_calls (g : Nat) (s : ByteArray) (n : Nat) (hn : n ≤ s.size) (w : World) (h : Whole w g 108 #[.string s, .nilIface]) :
    Calls Tryz.prog 75 #[.pointer (some ⟨g, 0, none⟩), .int .i64 n] w fun e w' => e = .returned (.string (s.extract 0 n)) ∧ w' = w.setCell ⟨g, 0, none⟩ (.string (s.extract n s.size)) := by
  have c0 : w.cell? ⟨g, 0, none⟩ = some (.string s) := by rw [h.at_]; rfl
  have c1 : w.cell? ⟨g, 1, none⟩ = some .nilIface := by rw [h.at_]; rfl
  have f0 := h.free 0
  have hm : max (n : Int) 0 = n := by omega
  have hi : ¬ (s.size : Int) < n := by omega
  have hi2 : (n : Int) ≤ s.size := by omega
  go_enter Tryz.func75, Tryz.ntmps75
  go_wp2
  go_ret
  exact ⟨rfl, rfl⟩
end Go.Proofs.YtfoljmpphbhobaaGreatDoor
