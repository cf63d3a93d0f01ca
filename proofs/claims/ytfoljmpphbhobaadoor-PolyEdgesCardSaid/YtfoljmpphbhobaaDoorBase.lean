/- Words on memory for the proofs of this seat, stated over any program: a block known whole, a row of integers, a slice that reads as a list, what a call may change. -/
import Derived.WalkKit
import Derived.WalkSpells
import Derived.Below
import Derived.Laws.OwnMore
import Derived.Laws.Rows
import Derived.Deep.AppendLies
import Derived.Deep.Draws
import Derived.OwnWalk
namespace Go.Spk
open Go.RowKit

/-- Block g of w holds exactly the cells cs, of element type t; none is frozen. -/
def Whole (w : World) (g : Nat) (t : TypeId) (cs : Array Value) : Prop := w.heap[g]? = some (.cells cs t (0, 0))
theorem Whole.inside {w : World} {g : Nat} {t : TypeId} {cs : Array Value} (h : Whole w g t cs) : g < w.heap.size := by
  refine Nat.lt_of_not_le fun hge => ?_
  have := Array.getElem?_eq_none hge
  unfold Whole at h
  simp [this] at h
theorem Whole.at_ {w : World} {g : Nat} {t : TypeId} {cs : Array Value} (h : Whole w g t cs) (i : Nat) : w.cell? ⟨g, i, none⟩ = cs[i]? := cell_of_row w g i cs t (0, 0) h
theorem Whole.free {w : World} {g : Nat} {t : TypeId} {cs : Array Value} (h : Whole w g t cs) (i : Nat) : w.frozen? ⟨g, i, none⟩ = false := by
  unfold Whole at h; simp [World.frozen?, h]
theorem Whole.made (w : World) (t : TypeId) (cs : Array Value) : Whole (w.alloc (.cells cs t)) w.heap.size t cs := heap_alloc_new w _
theorem Whole.new {w : World} {g : Nat} {t : TypeId} {cs cs' : Array Value} (hg : w.heap.size = g) (hc : cs = cs') : Whole (w.alloc (.cells cs t)) g t cs' := by
  subst hg hc; exact Whole.made w t cs
theorem Whole.stored {w : World} {g : Nat} {t : TypeId} {cs : Array Value} (h : Whole w g t cs) (i : Nat) (u : Value) : Whole (w.setCell ⟨g, i, none⟩ u) g t (cs.setIfInBounds i u) := by
  unfold Whole at *; simp [World.setCell, Array.getElem?_modify, h]
theorem Whole.elsewhere {w : World} {g : Nat} {t : TypeId} {cs : Array Value} (h : Whole w g t cs) (a : Addr) (ha : a.block ≠ g) (u : Value) : Whole (w.setCell a u) g t cs := by
  unfold Whole at *; rw [Below.heap_setCell w a u g (Ne.symm ha)]; exact h
theorem Whole.alloc {w : World} {g : Nat} {t : TypeId} {cs : Array Value} (h : Whole w g t cs) (o : Obj) : Whole (w.alloc o) g t cs := by
  have := Below.heap_alloc w o g h.inside
  unfold Whole at *; rw [this]; exact h
theorem Whole.drew {w : World} {g : Nat} {t : TypeId} {cs : Array Value} (h : Whole w g t cs) : Whole w.drew g t cs := h
theorem Whole.drewN {w : World} {g : Nat} {t : TypeId} {cs : Array Value} (h : Whole w g t cs) (n : Nat) : Whole (w.drewN n) g t cs := h
theorem Whole.below {w w' : World} {B g : Nat} {t : TypeId} {cs : Array Value} (h : Whole w g t cs) (hb : Below B w w') (hg : g < B) : Whole w' g t cs := by
  unfold Whole at *; rw [hb.block g hg]; exact h
theorem Whole.only {w w' : World} {g : Nat} {r : Option Nat} {t : TypeId} {cs : Array Value} (h : Whole w g t cs) (hb : w.grownBy w' r) (hg : some g ≠ r) : Whole w' g t cs := by
  have := hb.block g h.inside hg
  unfold Whole at *; rw [this]; exact h

/-! ### What has changed: block g alone, and what is new -/
theorem only_trans {a b c : World} {r : Option Nat} (h : a.grownBy b r) (k : b.grownBy c r) : a.grownBy c r :=
  ⟨k.os.trans h.os, k.tape.trans h.tape, k.output.trans h.output, Nat.le_trans h.size k.size, fun i hi hne => (k.block i (Nat.lt_of_lt_of_le hi h.size) hne).trans (h.block i hi hne)⟩
theorem only_drawn {a w : World} {r : Option Nat} (h : a.grownBy w r) : a.grownBy w.drew r := ⟨h.os, h.tape, h.output, h.size, h.block⟩
theorem only_drawnN {a w : World} {r : Option Nat} (h : a.grownBy w r) (n : Nat) : a.grownBy (w.drewN n) r := ⟨h.os, h.tape, h.output, h.size, h.block⟩
theorem only_made {a w : World} {r : Option Nat} (h : a.grownBy w r) (o : Obj) : a.grownBy (w.alloc o) r :=
  only_trans h (World.grownBy_alloc w o r)
theorem only_stored {w : World} {g : Nat} (p : Addr) (hp : p.block = g) (u : Value) : w.grownBy (w.setCell p u) (some g) :=
  ⟨rfl, rfl, rfl, by simp [World.setCell], fun i _ hne => Below.heap_setCell w p u i (fun e => hne (by rw [e, hp]))⟩
theorem below_of_only {a w : World} {r : Option Nat} {B : Nat} (h : a.grownBy w r) (hB : B ≤ a.heap.size) (hr : ∀ k, r = some k → B ≤ k) : Below B a w := (Below.refl B a).grown h hB hr
theorem only_of_below {a w : World} (h : Below a.heap.size a w) (r : Option Nat) : a.grownBy w r := ⟨h.os, h.tape, h.output, h.size, fun i hi _ => h.block i hi⟩
theorem below_drawnN {B : Nat} {a w : World} (h : Below B a w) (n : Nat) : Below B a (w.drewN n) := ⟨h.os, h.tape, h.output, h.size, h.block⟩

/-! ### A row of integers of one kind, and a block that is one -/
/-- The i-th number of a list (0 behind its end); a name that the walk does not open. -/
def ix (ws : List Int) (i : Nat) : Int := ws.getD i 0
def rowI (k : IntKind) (ws : List Int) : Array Value := (ws.map (Value.int k)).toArray
theorem rowI_size (k : IntKind) (ws : List Int) : (rowI k ws).size = ws.length := by simp [rowI]
theorem rowI_get (k : IntKind) (ws : List Int) (i : Nat) (h : i < ws.length) : (rowI k ws)[i]? = some (.int k (ix ws i)) := by
  simp [rowI, ix, List.getD, h]
theorem rowI_set (k : IntKind) (ws : List Int) (i : Nat) (v : Int) : (rowI k ws).setIfInBounds i (.int k v) = rowI k (ws.set i v) := by
  simp [rowI, List.map_set]
/-- From w to W block g and new blocks alone have changed; block g is the row ws of integers of kind k. -/
structure Upd (w W : World) (g : Nat) (t : TypeId) (k : IntKind) (ws : List Int) : Prop where
  only : w.grownBy W (some g)
  blk : Whole W g t (rowI k ws)
section
variable {w W : World} {g : Nat} {t : TypeId} {k : IntKind} {ws : List Int}
theorem Upd.start (h : Whole w g t (rowI k ws)) : Upd w w g t k ws := ⟨World.grownBy.refl w _, h⟩
theorem Upd.set (h : Upd w W g t k ws) (i : Nat) (v : Int) : Upd w (W.setCell ⟨g, i, none⟩ (.int k v)) g t k (ws.set i v) :=
  ⟨only_trans h.only (only_stored _ rfl _), by rw [← rowI_set]; exact h.blk.stored i _⟩
theorem Upd.drew (h : Upd w W g t k ws) : Upd w W.drew g t k ws := ⟨only_drawn h.only, h.blk⟩
theorem Upd.drewN (h : Upd w W g t k ws) (n : Nat) : Upd w (W.drewN n) g t k ws := ⟨only_drawnN h.only n, h.blk⟩
theorem Upd.alloc (h : Upd w W g t k ws) (o : Obj) : Upd w (W.alloc o) g t k ws := ⟨only_made h.only o, h.blk.alloc o⟩
theorem Upd.cell (h : Upd w W g t k ws) (i : Nat) (hi : i < ws.length) : W.cell? ⟨g, i, none⟩ = some (.int k (ix ws i)) := by
  rw [h.blk.at_, rowI_get k ws i hi]
theorem Upd.step {n : Nat} (h : Upd w W g t k ws) (hl : ws.length = n) (i : Nat) (v : Int) :
    ∃ W1 ws1, W1 = (W.setCell ⟨g, i, none⟩ (.int k v)).drew ∧ ws1 = ws.set i v ∧ Upd w W1 g t k ws1 ∧ ws1.length = n :=
  ⟨_, _, rfl, rfl, (h.set i v).drew, by simp [hl]⟩
theorem Upd.frozen (h : Upd w W g t k ws) (i : Nat) : W.frozen? ⟨g, i, none⟩ = false := h.blk.free i
end

/-! ### A slice that reads as a list of one-cell values -/
/-- The address A (of a slice of length xs.length) leads to the cells xs, in a block of w; nothing is asked of an empty list. -/
def Rd (w : World) (A : Option Addr) (xs : List Value) : Prop := xs ≠ [] → ∃ ad, A = some ad ∧ ad.block < w.heap.size ∧ ∀ j u, xs[j]? = some u → w.cell? (ad.add j) = some u
theorem add_block (a : Addr) (n : Nat) : (a.add n).block = a.block := by unfold Addr.add; split <;> rfl
theorem Rd.empty (w : World) (A : Option Addr) : Rd w A [] := fun h => absurd rfl h
theorem Rd.at_ {w : World} {A : Option Addr} {xs : List Value} (h : Rd w A xs) {k : Nat} (hk : k < xs.length) : ∃ ad, A = some ad ∧ ad.block < w.heap.size ∧ w.cell? (ad.add k) = some xs[k] := by
  obtain ⟨ad, e, hb, hc⟩ := h (by rintro rfl; simp at hk)
  exact ⟨ad, e, hb, hc k _ (List.getElem?_eq_getElem hk)⟩
theorem Rd.below {w w' : World} {A : Option Addr} {xs : List Value} (h : Rd w A xs) (hb : Below w.heap.size w w') : Rd w' A xs := fun hne => by
  obtain ⟨ad, e, hlt, hc⟩ := h hne
  exact ⟨ad, e, Nat.lt_of_lt_of_le hlt hb.size, fun j u hu => (hb.cell (by rw [add_block]; exact hlt)).trans (hc j u hu)⟩
theorem Rd.of_own {w : World} {base size : Nat} {e : TypeId} {A : Option Addr} {n c : Nat} {xs : List Value} (h : w.ownsRow base e size (.slice A n c) n xs) (hn : xs ≠ [] → 0 < n) : Rd w A xs := fun hne => by
  obtain ⟨g, cap, hv, _, hlt⟩ := h.form (hn hne)
  injection hv with hA _ _
  subst hA
  exact ⟨_, rfl, hlt, h.cells (g := g) rfl⟩

/-! ### The walk's world under a name: only what is said of it is kept -/
theorem name_wp {P : Program} {c : Code} {Q : Exit → Act → World → Prop} {a : Act} {w : World} (F : World → Prop) (h : F w) (k : ∀ W, F W → c.wp P Q a W) : c.wp P Q a w := k w h
theorem name_ops {P : Program} {ops : Array Oper} {l : List Oper} {Q : Exit → Act → World → Prop} {a : Act} {w : World} (F : World → Prop) (h : F w) (k : ∀ W, F W → wpList P ops Q l a W) : wpList P ops Q l a w := k w h
end Go.Spk
