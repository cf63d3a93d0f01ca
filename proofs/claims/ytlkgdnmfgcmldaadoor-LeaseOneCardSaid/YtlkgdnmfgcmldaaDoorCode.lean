/- The walk of api.Code: the number of a sentinel, bare or in a Fault. -/
import Derived.Test.YtlkgdnmfgcmldaaDoorIs
import Derived.LoopTactic
import Derived.Deep.LoopGhost
import Derived.Handy
import Derived.Outline
import Derived.Laws.Tables
namespace Go.Proofs.YtlkgdnmfgcmldaaDoor
open Go.RowKit Go.Spk
set_option linter.unusedVariables false
/-- The variables of the sentinels, in the order of their numbers. -/
def errG (i : Nat) : Nat := [5, 6, 7, 8, 9, 10, 3, 4, 1, 11, 12, 13, 14, 15, 16, 2, 0, 17, 18, 19].getD i 0
def errI (a : Addr) : Value := .iface 122 (.pointer (some a))
/-- The sentinels of a world: variable number i holds a pointer to E i; no two are one. -/
structure Errs (w : World) (E : Nat → Addr) : Prop where
  var : ∀ i, i < 20 → w.cell? ⟨errG i, 0, none⟩ = some (errI (E i))
  blk : ∀ i, i < 20 → ∃ c t, w.heap[(E i).block]? = some (.cells c t (0, 0))
  apart : ∀ i j, i < 20 → j < 20 → E i = E j → i = j
theorem Errs.below {w w' : World} {E : Nat → Addr} (h : Errs w E) (hb : Below w.heap.size w w') : Errs w' E :=
  ⟨fun i hi => (hb.cell (block_lt_of_cell (h.var i hi))).trans (h.var i hi), fun i hi => by
    obtain ⟨c, t, hc⟩ := h.blk i hi
    have hlt : (E i).block < w.heap.size := (Array.getElem?_eq_some_iff.1 hc).1
    exact ⟨c, t, by rw [hb.block _ hlt]; exact hc⟩, h.apart⟩
/-- The sentinels, as an array. -/
def errRow (E : Nat → Addr) : Array Value := ((List.range 20).map fun i => errI (E i)).toArray
theorem errRow_get (E : Nat → Addr) (n : Nat) (h : n < 20) : (errRow E)[n]? = some (errI (E n)) := by simp [errRow, h]
theorem errRow_size (E : Nat → Addr) : (errRow E).size = 20 := by simp [errRow]
theorem built_row (E : Nat → Addr) : (Tryd.prog.built 68 [(0, errI (E 0)), (1, errI (E 1)), (2, errI (E 2)), (3, errI (E 3)), (4, errI (E 4)), (5, errI (E 5)), (6, errI (E 6)), (7, errI (E 7)), (8, errI (E 8)), (9, errI (E 9)), (10, errI (E 10)), (11, errI (E 11)), (12, errI (E 12)), (13, errI (E 13)), (14, errI (E 14)), (15, errI (E 15)), (16, errI (E 16)), (17, errI (E 17)), (18, errI (E 18)), (19, errI (E 19))]).getD #[] = errRow E := by kernel_rfl
theorem run_index_err (E : Nat → Addr) (n : Nat) (h : n < 20) (w : World) : (Instr.index 68 (.agg (errRow E)) (.int .i64 n)).run Tryd.prog w = .ok (errI (E n)) w := by
  have h20 : n = 0 ∨ n = 1 ∨ n = 2 ∨ n = 3 ∨ n = 4 ∨ n = 5 ∨ n = 6 ∨ n = 7 ∨ n = 8 ∨ n = 9 ∨ n = 10 ∨ n = 11 ∨ n = 12 ∨ n = 13 ∨ n = 14 ∨ n = 15 ∨ n = 16 ∨ n = 17 ∨ n = 18 ∨ n = 19 := by omega
  rcases h20 with rfl | rfl | rfl | rfl | rfl | rfl | rfl | rfl | rfl | rfl | rfl | rfl | rfl | rfl | rfl | rfl | rfl | rfl | rfl | rfl
  all_goals (show _ = _; kernel_rfl)
set_option maxRecDepth 100000 in
set_option maxHeartbeats 4000000 in
theorem code_gen (E : Nat → Addr) (tv : TypeId) (xv : Value) (k : Nat) (hk : k < 20) (w : World) (hE : Errs w E)
    (ht : ∀ i, i < 20 → i = k → Calls Tryd.prog 27 #[.iface tv xv, errI (E i)] w fun e w' => e = .returned (.bool true) ∧ w' = w)
    (hf : ∀ i, i < 20 → i ≠ k → Calls Tryd.prog 27 #[.iface tv xv, errI (E i)] w fun e w' => e = .returned (.bool false) ∧ w' = w) :
    Calls Tryd.prog 12 #[.iface tv xv] w fun e w' => e = .returned (.int .i64 ((k : Int) + 1)) ∧ w = w' := by
  have c0 : w.cell? ⟨5, 0, none⟩ = some (errI (E 0)) := hE.var 0 (by decide)
  have c1 : w.cell? ⟨6, 0, none⟩ = some (errI (E 1)) := hE.var 1 (by decide)
  have c2 : w.cell? ⟨7, 0, none⟩ = some (errI (E 2)) := hE.var 2 (by decide)
  have c3 : w.cell? ⟨8, 0, none⟩ = some (errI (E 3)) := hE.var 3 (by decide)
  have c4 : w.cell? ⟨9, 0, none⟩ = some (errI (E 4)) := hE.var 4 (by decide)
  have c5 : w.cell? ⟨10, 0, none⟩ = some (errI (E 5)) := hE.var 5 (by decide)
  have c6 : w.cell? ⟨3, 0, none⟩ = some (errI (E 6)) := hE.var 6 (by decide)
  have c7 : w.cell? ⟨4, 0, none⟩ = some (errI (E 7)) := hE.var 7 (by decide)
  have c8 : w.cell? ⟨1, 0, none⟩ = some (errI (E 8)) := hE.var 8 (by decide)
  have c9 : w.cell? ⟨11, 0, none⟩ = some (errI (E 9)) := hE.var 9 (by decide)
  have c10 : w.cell? ⟨12, 0, none⟩ = some (errI (E 10)) := hE.var 10 (by decide)
  have c11 : w.cell? ⟨13, 0, none⟩ = some (errI (E 11)) := hE.var 11 (by decide)
  have c12 : w.cell? ⟨14, 0, none⟩ = some (errI (E 12)) := hE.var 12 (by decide)
  have c13 : w.cell? ⟨15, 0, none⟩ = some (errI (E 13)) := hE.var 13 (by decide)
  have c14 : w.cell? ⟨16, 0, none⟩ = some (errI (E 14)) := hE.var 14 (by decide)
  have c15 : w.cell? ⟨2, 0, none⟩ = some (errI (E 15)) := hE.var 15 (by decide)
  have c16 : w.cell? ⟨0, 0, none⟩ = some (errI (E 16)) := hE.var 16 (by decide)
  have c17 : w.cell? ⟨17, 0, none⟩ = some (errI (E 17)) := hE.var 17 (by decide)
  have c18 : w.cell? ⟨18, 0, none⟩ = some (errI (E 18)) := hE.var 18 (by decide)
  have c19 : w.cell? ⟨19, 0, none⟩ = some (errI (E 19)) := hE.var 19 (by decide)
  have HT := Lib.hid ht; have HF := Lib.hid hf
  clear ht hf hE
  go_enter Tryd.func12, Tryd.ntmps12
  go_wp2_with (first
    | (refine wpList_build rfl 68 _ rfl (by kernel_rfl) ?_)
    | fail)
  rw [built_row]
  clear c0 c1 c2 c3 c4 c5 c6 c7 c8 c9 c10 c11 c12 c13 c14 c15 c16 c17 c18 c19
  go_loopw [28] (fun i wr => ∃ n : Nat, n ≤ k ∧ i = .int .i64 n ∧ wr = w) (fun i _ => 20 - (intOf i).toNat)
  case atStart => exact ⟨0, by omega, rfl, rfl⟩
  case round =>
    obtain ⟨n, hnk, rfl, rfl⟩ := hrel
    have h20 : n < 20 := by omega
    have i1 : (n : Int) < 20 := by omega
    have hix := run_index_err E n h20 wr
    go_wp2_with fail
    by_cases hnk2 : n = k
    · refine (HT.out n h20 hnk2).mono ?_
      rintro e w' ⟨rfl, rfl⟩
      clear hix
      go_wp2_with fail
      go_ret
      exact ⟨rfl, rfl⟩
    · refine (HF.out n h20 hnk2).mono ?_
      rintro e w' ⟨rfl, rfl⟩
      clear hix
      go_wp2_with fail
      go_roundw
      case rel => exact ⟨n + 1, by omega, rfl, trivial⟩
      case measure => simp [intOf]; omega
theorem code_nil (w : World) : Calls Tryd.prog 12 #[.nilIface] w fun e w' => e = .returned (.int .i64 0) ∧ w = w' := by
  go_enter Tryd.func12, Tryd.ntmps12
  go_wp2_with fail
  go_ret
  exact ⟨rfl, rfl⟩
/-- A bare sentinel. -/
theorem code_bare (E : Nat → Addr) (k : Nat) (hk : k < 20) (w : World) (hE : Errs w E) :
    Calls Tryd.prog 12 #[errI (E k)] w fun e w' => e = .returned (.int .i64 ((k : Int) + 1)) ∧ w = w' := by
  refine code_gen E 122 (.pointer (some (E k))) k hk w hE (fun i hi hik => ?_) (fun i hi hik => ?_)
  · subst hik; exact is_same _ w
  · obtain ⟨c, t, hc⟩ := hE.blk k hk
    obtain ⟨c', t', hc'⟩ := hE.blk i hi
    exact is_other _ _ c c' t t' w (fun e => hik (hE.apart k i hk hi e).symm) hc hc'
end Go.Proofs.YtlkgdnmfgcmldaaDoor
