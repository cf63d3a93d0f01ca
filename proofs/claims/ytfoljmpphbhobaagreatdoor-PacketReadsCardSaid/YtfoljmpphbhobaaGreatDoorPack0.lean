/- packet's small functions. -/
import Derived.Test.YtfoljmpphbhobaaGreatDoorWireX
namespace Go.Proofs.YtfoljmpphbhobaaGreatDoor
open Go.RowKit Go.Spk
set_option linter.unusedVariables false
/-- A line's cells. -/
def lineRow (n : Nat) (sealed : Bool) (ks : List Int) : Array Value := #[.int .u64 n, .bool sealed] ++ rowI .u8 ks
def readRow (n : Nat) (sealed : Bool) (ks : List Int) (s : ByteArray) (e : Value) : Array Value := lineRow n sealed ks ++ #[.string s, e]
set_option maxHeartbeats 2000000 in
theorem count_calls (g : Nat) (n : Nat) (w : World) (h : w.cell? ⟨g, 0, none⟩ = some (.int .u64 n)) :
    Calls Tryz.prog 13 #[.pointer (some ⟨g, 0, none⟩)] w fun e w' => e = .returned (.int .u64 n) ∧ w' = w := by
  go_enter Tryz.func13, Tryz.ntmps13
  go_wp2
  go_ret
  exact ⟨rfl, rfl⟩
set_option maxHeartbeats 2000000 in
theorem ahead_calls (g : Nat) (b : Bool) (w : World) (h : w.cell? ⟨g, 1, none⟩ = some (.bool b)) :
    Calls Tryz.prog 21 #[.pointer (some ⟨g, 0, none⟩)] w fun e w' => e = .returned (.int .i64 (if b then 0 else 4)) ∧ w' = w := by
  cases b
  all_goals
    go_enter Tryz.func21, Tryz.ntmps21
    go_wp2
    go_ret
    exact ⟨rfl, rfl⟩
set_option maxHeartbeats 2000000 in
theorem waits_calls (g : Nat) (s : ByteArray) (w : World) (h : w.cell? ⟨g, 34, none⟩ = some (.string s)) :
    Calls Tryz.prog 18 #[.pointer (some ⟨g, 0, none⟩)] w fun e w' => e = .returned (.int .i64 s.size) ∧ w' = w := by
  go_enter Tryz.func18, Tryz.ntmps18
  go_wp2
  go_ret
  exact ⟨rfl, rfl⟩
set_option maxHeartbeats 2000000 in
theorem feed_calls (g : Nat) (s x : ByteArray) (w : World) (h : w.cell? ⟨g, 34, none⟩ = some (.string s)) (he : w.cell? ⟨g, 35, none⟩ = some .nilIface) (hf : w.frozen? ⟨g, 34, none⟩ = false) (hs : s.size + x.size ≤ 1000000000) :
    Calls Tryz.prog 15 #[.pointer (some ⟨g, 0, none⟩), .string x] w fun e w' => e = .returned (.tuple #[]) ∧ w' = w.setCell ⟨g, 34, none⟩ (.string (s ++ x)) := by
  go_enter Tryz.func15, Tryz.ntmps15
  go_wp2
  go_end0
  exact ⟨rfl, rfl⟩
end Go.Proofs.YtfoljmpphbhobaaGreatDoor
