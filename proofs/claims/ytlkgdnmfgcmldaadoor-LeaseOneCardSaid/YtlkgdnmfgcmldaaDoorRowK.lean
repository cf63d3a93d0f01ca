/- Loads and stores of whole rows, through a region that draws its order. -/
import Derived.Test.YtlkgdnmfgcmldaaDoorLea27
import Derived.Deep.MidRow
import Derived.Deep.DrawnRows
namespace Go.Proofs.YtlkgdnmfgcmldaaDoor
open Go.RowKit Go.Spk
set_option linter.unusedVariables false
attribute [local go_sem ↓] Go.wp_at_zero Go.wp_at_succ
def rowBlk : Value → Nat
  | .pointer (some a) => a.block
  | _ => 0
/-- The first m cells of a pointer's block, as a value. -/
def rowAt (w : World) (x : Value) (m : Nat) : Value := .agg ((List.range m).map fun j => (w.cell? ⟨rowBlk x, j, none⟩).getD undef).toArray
/-- A pointer to a block's first cell, of m at least, that may be written. -/
def Lies (w : World) (x : Value) (m : Nat) : Prop := ∃ g, x = .pointer (some ⟨g, 0, none⟩) ∧ w.there g 0 m
theorem Lies.drew_is (w : World) (x : Value) (m : Nat) : Lies w.drew x m = Lies w x m := rfl
theorem rowAt_drew (w : World) (x : Value) (m : Nat) : rowAt w.drew x m = rowAt w x m := rfl
theorem Lies.set {w : World} {x : Value} {m : Nat} (h : Lies w x m) (g : Nat) (vs : List Value) : Lies (w.setCells g 0 vs) x m = True := by
  obtain ⟨q, rfl, ht⟩ := h
  exact eq_true ⟨q, rfl, World.there_setCells ht g 0 vs⟩
theorem Lies.set_drew {w : World} {x : Value} {m : Nat} (h : Lies w x m) (g : Nat) (vs : List Value) : Lies (w.drew.setCells g 0 vs) x m = True := Lies.set (w := w.drew) h g vs
theorem rowBlk_is (a : Addr) : rowBlk (.pointer (some a)) = a.block := rfl
theorem cell_set_ne {b g : Nat} (hne : ¬ b = g) (w : World) (vs : List Value) (o : Nat) : (w.setCells g 0 vs).cell? ⟨b, o, none⟩ = w.cell? ⟨b, o, none⟩ := World.cell?_setCells_out g vs 0 w ⟨b, o, none⟩ (fun e => absurd e hne)
theorem rowAt_set {w : World} {q : Nat} {g m : Nat} (hne : ¬ q = g) (vs : List Value) : rowAt (w.setCells g 0 vs) (.pointer (some ⟨q, 0, none⟩)) m = rowAt w (.pointer (some ⟨q, 0, none⟩)) m := by
  unfold rowAt
  congr 2
  refine List.map_congr_left fun j hj => ?_
  show ((w.setCells g 0 vs).cell? ⟨q, j, none⟩).getD undef = (w.cell? ⟨q, j, none⟩).getD undef
  rw [World.cell?_setCells_out g vs 0 w ⟨q, j, none⟩ (fun e => absurd e hne)]
theorem lies_of {w : World} {g : Nat} {t : TypeId} {cs : Array Value} {m : Nat} (h : Whole w g t cs) (hm : cs.size = m) : Lies w (.pointer (some ⟨g, 0, none⟩)) m :=
  ⟨g, rfl, fun j hj => by rw [Nat.zero_add]; exact ⟨by rw [h.at_, Array.getElem?_eq_getElem (by omega)]; rfl, h.free _⟩⟩
theorem row_is {w : World} {g : Nat} {t : TypeId} {cs : Array Value} {m : Nat} (h : Whole w g t cs) (hm : cs.size = m) : rowAt w (.pointer (some ⟨g, 0, none⟩)) m = .agg cs := by
  unfold rowAt
  subst hm
  congr 1
  apply Array.ext
  · simp
  · intro i h1 h2
    simp only [List.size_toArray, List.length_map, List.length_range] at h1
    simp [rowBlk, h.at_, h2]
theorem splice_row {w : World} {g : Nat} {t : TypeId} : ∀ (vs pre old post : List Value), old.length = vs.length → Whole w g t (pre ++ old ++ post).toArray → Whole (w.setCells g pre.length vs) g t (pre ++ vs ++ post).toArray := by
  intro vs
  induction vs generalizing w with
  | nil =>
    intro pre old post hl h
    obtain rfl : old = [] := by simpa using hl
    exact h
  | cons v r ih =>
    intro pre old post hl h
    cases old with
    | nil => simp at hl
    | cons x old =>
      have h1 : Whole (w.setCell ⟨g, pre.length, none⟩ v) g t ((pre ++ [v]) ++ old ++ post).toArray := by
        have h2 := h.stored pre.length v
        have e : (pre ++ x :: old ++ post).toArray.setIfInBounds pre.length v = ((pre ++ [v]) ++ old ++ post).toArray := by
          simp
        rwa [e] at h2
      have h3 := ih (pre ++ [v]) old post (by simpa using hl) h1
      rw [List.length_append, List.length_singleton] at h3
      rw [World.setCells]
      simpa using h3
theorem fill_row {w : World} {g : Nat} {t : TypeId} {cs new : Array Value} (h : Whole w g t cs) (he : new.size = cs.size) : Whole (w.setCells g 0 new.toList) g t new := by
  have h1 : Whole w g t (([] : List Value) ++ cs.toList ++ []).toArray := by simpa using h
  have h2 := splice_row new.toList [] cs.toList [] (by simp [he]) h1
  simpa using h2
theorem only_set (g : Nat) : ∀ (vs : List Value) (o : Nat) (w : World), w.grownBy (w.setCells g o vs) (some g)
  | [], o, w => World.grownBy.refl w _
  | v :: vs, o, w => only_trans (only_stored ⟨g, o, none⟩ rfl v) (only_set g vs (o + 1) _)
theorem ld_row {P : Program} (ty : TypeId) (d : TypeDesc) (m : Nat) (hu : P.underlying ty = some d) (hd : d.isRow = true) (hi : (P.info? ty).map (·.size) = some m) (w : World) (x : Value) (hx : Lies w x m) :
    (Instr.loadAt ty x).run P w = .ok (rowAt w x m) w := by
  obtain ⟨g, rfl, ht⟩ := hx
  refine run_loadAt_mid w g 0 ty _ d (fun j v hv => ?_) hu hd (by rw [hi]; simp)
  obtain ⟨hj, e⟩ := List.getElem?_eq_some_iff.1 hv
  simp only [List.length_map, List.length_range] at hj
  obtain ⟨h1, _⟩ := ht j hj
  obtain ⟨u, hu'⟩ := Option.isSome_iff_exists.1 h1
  rw [hu', ← e]
  simp only [List.getElem_map, List.getElem_range]
  rw [Nat.zero_add] at hu'
  show some u = some ((w.cell? ⟨g, j, none⟩).getD undef)
  rw [hu']
  rfl
def RowOf (m : Nat) (y : Value) : Prop := ∃ cs : Array Value, y = .agg cs ∧ cs.size = m ∧ cs.all (·.oneCell') = true
theorem st_row {P : Program} (ty : TypeId) (m : Nat) (hi : (P.info? ty).map (·.size) = some m) (w : World) (x y : Value) (hx : Lies w x m) (hy : RowOf m y) : (Instr.storeAt ty x y).run P w = .ok () (w.setCells (rowBlk x) 0 y.cells.toList) := by
  obtain ⟨g, rfl, ht⟩ := hx
  obtain ⟨cs, rfl, hs, h1⟩ := hy
  exact run_storeAt_mid w g 0 ty cs (by rw [hs]; exact ht) (by rw [hi, hs]) h1
section
variable {d : Tmp} {x y : Operand} {ty : TypeId} {pos : String} {after : Array Edge} {gd : Option (Nat × Bool)} {a : Go.Act} {w : World} {K : Go.Act → World → Prop} {Q : Exit → Go.Act → World → Prop}
theorem wp_ldT (hx : Lies w (a.eval x) 5) : Oper.wp Tryd.prog ⟨some d, .load 44 x, ty, pos, after, gd⟩ a w K Q = K (a.put (some d) (rowAt w (a.eval x) 5)) w := by
  have h := ld_row (P := Tryd.prog) 44 _ 5 Tryd.underlying44 rfl (by kernel_rfl) w _ hx
  unfold Oper.wp
  simp only [execOp, Sem.run_bind, h, Result.andThen_ok, Sem.run_pure]
  rfl
theorem wp_ldR (hx : Lies w (a.eval x) 5) : Oper.wp Tryd.prog ⟨some d, .load 71 x, ty, pos, after, gd⟩ a w K Q = K (a.put (some d) (rowAt w (a.eval x) 5)) w := by
  have h := ld_row (P := Tryd.prog) 71 _ 5 Tryd.underlying71 rfl (by kernel_rfl) w _ hx
  unfold Oper.wp
  simp only [execOp, Sem.run_bind, h, Result.andThen_ok, Sem.run_pure]
  rfl
theorem wp_ldL (hx : Lies w (a.eval x) 5) : Oper.wp Tryd.prog ⟨some d, .load 29 x, ty, pos, after, gd⟩ a w K Q = K (a.put (some d) (rowAt w (a.eval x) 5)) w := by
  have h := ld_row (P := Tryd.prog) 29 _ 5 Tryd.underlying29 rfl (by kernel_rfl) w _ hx
  unfold Oper.wp
  simp only [execOp, Sem.run_bind, h, Result.andThen_ok, Sem.run_pure]
  rfl
theorem wp_stT (hx : Lies w (a.eval x) 5) (hy : RowOf 5 (a.eval y)) : Oper.wp Tryd.prog ⟨none, .store 44 x y, ty, pos, after, gd⟩ a w K Q = K (a.put none undef) (w.setCells (rowBlk (a.eval x)) 0 (a.eval y).cells.toList) := by
  have h := st_row (P := Tryd.prog) 44 5 (by kernel_rfl) w _ _ hx hy
  unfold Oper.wp
  simp only [execOp, Sem.run_bind, h, Result.andThen_ok, Sem.run_pure]
  rfl
theorem wp_stR (hx : Lies w (a.eval x) 5) (hy : RowOf 5 (a.eval y)) : Oper.wp Tryd.prog ⟨none, .store 71 x y, ty, pos, after, gd⟩ a w K Q = K (a.put none undef) (w.setCells (rowBlk (a.eval x)) 0 (a.eval y).cells.toList) := by
  have h := st_row (P := Tryd.prog) 71 5 (by kernel_rfl) w _ _ hx hy
  unfold Oper.wp
  simp only [execOp, Sem.run_bind, h, Result.andThen_ok, Sem.run_pure]
  rfl
end
theorem rowOf_T (n tt l e : Int) (v : Value) (hv : v.oneCell' = true) : RowOf 5 (refV n tt l e v) := ⟨_, rfl, rfl, by simpa [Value.oneCell'] using hv⟩
theorem rowOf_L (x : Lse) : RowOf 5 (lseV x) := ⟨(lseC x).toArray, rfl, rfl, by simp [lseC, Value.oneCell']⟩
end Go.Proofs.YtlkgdnmfgcmldaaDoor
