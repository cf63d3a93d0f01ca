/- More words on memory: a row laid whole, what a call in a loop keeps. -/
import Derived.Test.YtfoljmpphbhobaaDoorBase
import Derived.Deep.MidRow
namespace Go.Spk
open Go.RowKit
theorem Whole.row {w : World} {g : Nat} {t : TypeId} {cs new : Array Value} (h : Whole w g t cs) : Whole (w.setRow g new) g t new := setRow_heap w g cs new t _ h
theorem only_row (w : World) (g : Nat) (cs : Array Value) : w.grownBy (w.setRow g cs) (some g) :=
  ⟨rfl, rfl, rfl, by simp, fun i _ hne => setRow_other w g i cs (fun e => hne (by rw [e]))⟩
theorem Upd.other {w W : World} {g g' : Nat} {t t' : TypeId} {k : IntKind} {ws : List Int} {cs : Array Value} (h : Upd w W g t k ws) (h' : Whole w g' t' cs) (hne : g' ≠ g) : Whole W g' t' cs :=
  h'.only h.only (fun e => hne (by injection e))
theorem Upd.below {w W : World} {g : Nat} {t : TypeId} {k : IntKind} {ws : List Int} {w0 : World} {B : Nat} (h : Upd w W g t k ws) (hb : Below B w0 w) (hB : B ≤ g) (hs : B ≤ w.heap.size) : Below B w0 W :=
  hb.grown h.only hs (fun k hk => by injection hk with hk; omega)
/-- A cell of a row of integers. -/
theorem Whole.int {w : World} {g : Nat} {t : TypeId} {k : IntKind} {ws : List Int} (h : Whole w g t (rowI k ws)) (i : Nat) (hi : i < ws.length) : w.cell? ⟨g, i, none⟩ = some (.int k (ix ws i)) := by
  rw [h.at_, rowI_get k ws i hi]
theorem ix_bytes {ks : List Int} (h : ∀ b ∈ ks, 0 ≤ b ∧ b ≤ 255) (i : Nat) : 0 ≤ ix ks i ∧ ix ks i ≤ 255 := by
  unfold ix
  by_cases hi : i < ks.length
  · rw [show ks.getD i 0 = ks[i] from by simp [List.getD, hi]]; exact h _ (List.getElem_mem hi)
  · rw [show ks.getD i 0 = 0 from by simp [List.getD, Nat.le_of_not_lt hi]]; omega
theorem ne_some {a b : Nat} (h : a ≠ b) : some a ≠ some b := fun e => h (by injection e)
/-- The world has n blocks; a name that the walk does not open. -/
def Sz (w : World) (n : Nat) : Prop := w.heap.size = n
theorem Sz.set {w : World} {n : Nat} (h : Sz w n) (a : Addr) (u : Value) : Sz (w.setCell a u) n := by unfold Sz at *; simpa [World.setCell] using h
theorem Sz.drew {w : World} {n : Nat} (h : Sz w n) : Sz w.drew n := h
theorem Sz.drewN {w : World} {n : Nat} (h : Sz w n) (m : Nat) : Sz (w.drewN m) n := h
theorem Sz.alloc {w : World} {n : Nat} (h : Sz w n) (o : Obj) : Sz (w.alloc o) (n + 1) := by unfold Sz at *; simp [h]
theorem Sz.row {w : World} {n : Nat} (h : Sz w n) (g : Nat) (cs : Array Value) : Sz (w.setRow g cs) n := by unfold Sz at *; simp [h]
theorem rangeAt_below {w w' : World} {b o : Nat} {cs : List Value} (h : w.rangeAt b o cs) (hb : Below w.heap.size w w') : w'.rangeAt b o cs := fun j v hv => by
  have h1 := h j v hv
  exact (hb.cell (block_lt_of_cell h1)).trans h1
theorem Upd.next {w W W' : World} {g : Nat} {t : TypeId} {k : IntKind} {ws ws' : List Int} (h : Upd w W g t k ws) (h' : Upd W W' g t k ws') : Upd w W' g t k ws' := ⟨only_trans h.only h'.only, h'.blk⟩
/-! ### Slices of an array variable: run equations -/
section
variable {P : Program} {t e : TypeId} {n : Nat}
theorem elem_of (ht : P.underlying t = some (.array n e)) : P.arrayLen t = n ∧ P.elem t = e := by
  simp [Program.arrayLen, Program.elem, ht]
theorem size_run {w : World} (hs : (P.info? e).map (·.size) = some 1) : (sizeOf e).run P w = .ok 1 w := by
  cases hq : P.info? e with
  | none => simp [hq] at hs
  | some i => simp [hq] at hs; simp [sizeOf, typeInfo, hq, hs]
theorem slice_arr_from (ht : P.underlying t = some (.array n e)) (hs : (P.info? e).map (·.size) = some 1) (g : Nat) (l : Nat) (hl : l < n) (l' : Int) (hl' : l' = l) (w : World) :
    (Instr.sliceAt t (.pointer (some ⟨g, 0, none⟩)) (some (.int .i64 l')) none none).run P w = .ok (.slice (some ⟨g, l, none⟩) (n - l) (n - l)) w := by
  obtain ⟨h1, h2⟩ := elem_of ht
  rw [run_sliceAt_array_l w t _ (by rw [h1, h2]; exact ht) _ _ (by omega) (by rw [h1]; omega), h1, h2, size_run hs]
  subst hl'
  simp [slicedAt, Nat.ne_of_gt hl, Addr.add_mid]
theorem slice_arr_to (ht : P.underlying t = some (.array n e)) (hs : (P.info? e).map (·.size) = some 1) (g : Nat) (h : Nat) (hh : h ≤ n) (h' : Int) (hh' : h' = h) (w : World) (h0 : 0 < n) :
    (Instr.sliceAt t (.pointer (some ⟨g, 0, none⟩)) none (some (.int .i64 h')) none).run P w = .ok (.slice (some ⟨g, 0, none⟩) h n) w := by
  obtain ⟨h1, h2⟩ := elem_of ht
  rw [run_sliceAt_array_h w t _ (by rw [h1, h2]; exact ht) _ _ (by omega) (by rw [h1]; omega), h1, h2, size_run hs]
  subst hh'
  simp [slicedAt, Nat.ne_of_gt h0, Addr.add_mid]
end
end Go.Spk
