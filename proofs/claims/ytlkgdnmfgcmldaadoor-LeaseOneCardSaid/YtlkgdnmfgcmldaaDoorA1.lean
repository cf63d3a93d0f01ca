/- Words on memory for the proofs of this seat, stated over any program: a block known whole, a row of integers, a slice that reads as a list, what a call may change. · More words on memory: a row laid whole, what a call in a loop keeps. · Bytes of a string and back; the row that a conversion of a string lays. · A slice of integers that the call itself makes and appends to. · A region that draws its order: operations that yield their values in every world stand ahead of a forced tail. · Words for a region that draws its order and calls functions that make memory: a walk in one class of worlds, stated over any program. · A region that draws its order: operations that yield their value in every world of a class stand ahead of a forced tail, whose operations move a state of our own along (a block made and filled): stated over any program. · An argument that is an array of integers, opened and shut; a two-dimensional table of integers out of the row's list: over any program. · An argument that is a slice of integers, opened and shut: over any program. -/
import Derived.WalkKit
import Derived.WalkSpells
import Derived.Below
import Derived.Laws.OwnMore
import Derived.Laws.Rows
import Derived.Deep.AppendLies
import Derived.Deep.Draws
import Derived.OwnWalk
import Derived.Deep.MidRow
import Derived.Laws.BytesArg
import Derived.Laws.IdiomStrings
import Derived.StillTail
import Derived.BigQuiet
import Derived.Deep.Quiet
import Derived.Tactics
import Derived.OpenShut
import Derived.Lib.LaidTab
import Derived.DataShut
import Derived.ChangeSame
import Derived.ChangeSlices
namespace Go.Spk
open Go.RowKit

/-- Block g of w holds exactly the cells cs, of element type t; none is frozen. -/
def Whole (w : World) (g : Nat) (t : TypeId) (cs : Array Value) : Prop := w.heap[g]? = some (.cells cs t (0, 0))
theorem Whole.inside {w : World} {g : Nat} {t : TypeId} {cs : Array Value} (h : Whole w g t cs) : g < w.heap.size := by
  refine Nat.lt_of_not_le fun hge => ?_
  have := Array.getElem?_eq_none hge
  unfold Whole at h
  simp [this] at h
theorem Whole.at_ {w : World} {g : Nat} {t : TypeId} {cs : Array Value} (h : Whole w g t cs) (i : Nat) : w.cell? ⟨g, i, none⟩ = cs[i]? := cell_of_row w g i cs t (0, 0) h
theorem Whole.free {w : World} {g : Nat} {t : TypeId} {cs : Array Value} (h : Whole w g t cs) (i : Nat) : w.frozen? ⟨g, i, none⟩ = false := by
  unfold Whole at h; simp [World.frozen?, h]
theorem Whole.made (w : World) (t : TypeId) (cs : Array Value) : Whole (w.alloc (.cells cs t)) w.heap.size t cs := heap_alloc_new w _
theorem Whole.new {w : World} {g : Nat} {t : TypeId} {cs cs' : Array Value} (hg : w.heap.size = g) (hc : cs = cs') : Whole (w.alloc (.cells cs t)) g t cs' := by
  subst hg hc; exact Whole.made w t cs
theorem Whole.stored {w : World} {g : Nat} {t : TypeId} {cs : Array Value} (h : Whole w g t cs) (i : Nat) (u : Value) : Whole (w.setCell ⟨g, i, none⟩ u) g t (cs.setIfInBounds i u) := by
  unfold Whole at *; simp [World.setCell, Array.getElem?_modify, h]
theorem Whole.elsewhere {w : World} {g : Nat} {t : TypeId} {cs : Array Value} (h : Whole w g t cs) (a : Addr) (ha : a.block ≠ g) (u : Value) : Whole (w.setCell a u) g t cs := by
  unfold Whole at *; rw [Below.heap_setCell w a u g (Ne.symm ha)]; exact h
theorem Whole.alloc {w : World} {g : Nat} {t : TypeId} {cs : Array Value} (h : Whole w g t cs) (o : Obj) : Whole (w.alloc o) g t cs := by
  have := Below.heap_alloc w o g h.inside
  unfold Whole at *; rw [this]; exact h
theorem Whole.drew {w : World} {g : Nat} {t : TypeId} {cs : Array Value} (h : Whole w g t cs) : Whole w.drew g t cs := h
theorem Whole.drewN {w : World} {g : Nat} {t : TypeId} {cs : Array Value} (h : Whole w g t cs) (n : Nat) : Whole (w.drewN n) g t cs := h
theorem Whole.below {w w' : World} {B g : Nat} {t : TypeId} {cs : Array Value} (h : Whole w g t cs) (hb : Below B w w') (hg : g < B) : Whole w' g t cs := by
  unfold Whole at *; rw [hb.block g hg]; exact h
theorem Whole.only {w w' : World} {g : Nat} {r : Option Nat} {t : TypeId} {cs : Array Value} (h : Whole w g t cs) (hb : w.grownBy w' r) (hg : some g ≠ r) : Whole w' g t cs := by
  have := hb.block g h.inside hg
  unfold Whole at *; rw [this]; exact h

/-! ### What has changed: block g alone, and what is new -/
theorem only_trans {a b c : World} {r : Option Nat} (h : a.grownBy b r) (k : b.grownBy c r) : a.grownBy c r :=
  ⟨k.os.trans h.os, k.tape.trans h.tape, k.output.trans h.output, Nat.le_trans h.size k.size, fun i hi hne => (k.block i (Nat.lt_of_lt_of_le hi h.size) hne).trans (h.block i hi hne)⟩
theorem only_drawn {a w : World} {r : Option Nat} (h : a.grownBy w r) : a.grownBy w.drew r := ⟨h.os, h.tape, h.output, h.size, h.block⟩
theorem only_drawnN {a w : World} {r : Option Nat} (h : a.grownBy w r) (n : Nat) : a.grownBy (w.drewN n) r := ⟨h.os, h.tape, h.output, h.size, h.block⟩
theorem only_made {a w : World} {r : Option Nat} (h : a.grownBy w r) (o : Obj) : a.grownBy (w.alloc o) r :=
  only_trans h (World.grownBy_alloc w o r)
theorem only_stored {w : World} {g : Nat} (p : Addr) (hp : p.block = g) (u : Value) : w.grownBy (w.setCell p u) (some g) :=
  ⟨rfl, rfl, rfl, by simp [World.setCell], fun i _ hne => Below.heap_setCell w p u i (fun e => hne (by rw [e, hp]))⟩
theorem below_of_only {a w : World} {r : Option Nat} {B : Nat} (h : a.grownBy w r) (hB : B ≤ a.heap.size) (hr : ∀ k, r = some k → B ≤ k) : Below B a w := (Below.refl B a).grown h hB hr
theorem only_of_below {a w : World} (h : Below a.heap.size a w) (r : Option Nat) : a.grownBy w r := ⟨h.os, h.tape, h.output, h.size, fun i hi _ => h.block i hi⟩
theorem below_drawnN {B : Nat} {a w : World} (h : Below B a w) (n : Nat) : Below B a (w.drewN n) := ⟨h.os, h.tape, h.output, h.size, h.block⟩

/-! ### A row of integers of one kind, and a block that is one -/
/-- The i-th number of a list (0 behind its end); a name that the walk does not open. -/
def ix (ws : List Int) (i : Nat) : Int := ws.getD i 0
def rowI (k : IntKind) (ws : List Int) : Array Value := (ws.map (Value.int k)).toArray
theorem rowI_size (k : IntKind) (ws : List Int) : (rowI k ws).size = ws.length := by simp [rowI]
theorem rowI_get (k : IntKind) (ws : List Int) (i : Nat) (h : i < ws.length) : (rowI k ws)[i]? = some (.int k (ix ws i)) := by
  simp [rowI, ix, List.getD, h]
theorem rowI_set (k : IntKind) (ws : List Int) (i : Nat) (v : Int) : (rowI k ws).setIfInBounds i (.int k v) = rowI k (ws.set i v) := by
  simp [rowI, List.map_set]
/-- From w to W block g and new blocks alone have changed; block g is the row ws of integers of kind k. -/
structure Upd (w W : World) (g : Nat) (t : TypeId) (k : IntKind) (ws : List Int) : Prop where
  only : w.grownBy W (some g)
  blk : Whole W g t (rowI k ws)
section
variable {w W : World} {g : Nat} {t : TypeId} {k : IntKind} {ws : List Int}
theorem Upd.start (h : Whole w g t (rowI k ws)) : Upd w w g t k ws := ⟨World.grownBy.refl w _, h⟩
theorem Upd.set (h : Upd w W g t k ws) (i : Nat) (v : Int) : Upd w (W.setCell ⟨g, i, none⟩ (.int k v)) g t k (ws.set i v) :=
  ⟨only_trans h.only (only_stored _ rfl _), by rw [← rowI_set]; exact h.blk.stored i _⟩
theorem Upd.drew (h : Upd w W g t k ws) : Upd w W.drew g t k ws := ⟨only_drawn h.only, h.blk⟩
theorem Upd.drewN (h : Upd w W g t k ws) (n : Nat) : Upd w (W.drewN n) g t k ws := ⟨only_drawnN h.only n, h.blk⟩
theorem Upd.alloc (h : Upd w W g t k ws) (o : Obj) : Upd w (W.alloc o) g t k ws := ⟨only_made h.only o, h.blk.alloc o⟩
theorem Upd.cell (h : Upd w W g t k ws) (i : Nat) (hi : i < ws.length) : W.cell? ⟨g, i, none⟩ = some (.int k (ix ws i)) := by
  rw [h.blk.at_, rowI_get k ws i hi]
theorem Upd.step {n : Nat} (h : Upd w W g t k ws) (hl : ws.length = n) (i : Nat) (v : Int) :
    ∃ W1 ws1, W1 = (W.setCell ⟨g, i, none⟩ (.int k v)).drew ∧ ws1 = ws.set i v ∧ Upd w W1 g t k ws1 ∧ ws1.length = n :=
  ⟨_, _, rfl, rfl, (h.set i v).drew, by simp [hl]⟩
theorem Upd.frozen (h : Upd w W g t k ws) (i : Nat) : W.frozen? ⟨g, i, none⟩ = false := h.blk.free i
end

/-! ### A slice that reads as a list of one-cell values -/
/-- The address A (of a slice of length xs.length) leads to the cells xs, in a block of w; nothing is asked of an empty list. -/
def Rd (w : World) (A : Option Addr) (xs : List Value) : Prop := xs ≠ [] → ∃ ad, A = some ad ∧ ad.block < w.heap.size ∧ ∀ j u, xs[j]? = some u → w.cell? (ad.add j) = some u
theorem add_block (a : Addr) (n : Nat) : (a.add n).block = a.block := by unfold Addr.add; split <;> rfl
theorem Rd.empty (w : World) (A : Option Addr) : Rd w A [] := fun h => absurd rfl h
theorem Rd.at_ {w : World} {A : Option Addr} {xs : List Value} (h : Rd w A xs) {k : Nat} (hk : k < xs.length) : ∃ ad, A = some ad ∧ ad.block < w.heap.size ∧ w.cell? (ad.add k) = some xs[k] := by
  obtain ⟨ad, e, hb, hc⟩ := h (by rintro rfl; simp at hk)
  exact ⟨ad, e, hb, hc k _ (List.getElem?_eq_getElem hk)⟩
theorem Rd.below {w w' : World} {A : Option Addr} {xs : List Value} (h : Rd w A xs) (hb : Below w.heap.size w w') : Rd w' A xs := fun hne => by
  obtain ⟨ad, e, hlt, hc⟩ := h hne
  exact ⟨ad, e, Nat.lt_of_lt_of_le hlt hb.size, fun j u hu => (hb.cell (by rw [add_block]; exact hlt)).trans (hc j u hu)⟩
theorem Rd.of_own {w : World} {base size : Nat} {e : TypeId} {A : Option Addr} {n c : Nat} {xs : List Value} (h : w.ownsRow base e size (.slice A n c) n xs) (hn : xs ≠ [] → 0 < n) : Rd w A xs := fun hne => by
  obtain ⟨g, cap, hv, _, hlt⟩ := h.form (hn hne)
  injection hv with hA _ _
  subst hA
  exact ⟨_, rfl, hlt, h.cells (g := g) rfl⟩

/-! ### The walk's world under a name: only what is said of it is kept -/
theorem name_wp {P : Program} {c : Code} {Q : Exit → Act → World → Prop} {a : Act} {w : World} (F : World → Prop) (h : F w) (k : ∀ W, F W → c.wp P Q a W) : c.wp P Q a w := k w h
theorem name_ops {P : Program} {ops : Array Oper} {l : List Oper} {Q : Exit → Act → World → Prop} {a : Act} {w : World} (F : World → Prop) (h : F w) (k : ∀ W, F W → wpList P ops Q l a W) : wpList P ops Q l a w := k w h
end Go.Spk
namespace Go.Spk
open Go.RowKit
theorem Whole.row {w : World} {g : Nat} {t : TypeId} {cs new : Array Value} (h : Whole w g t cs) : Whole (w.setRow g new) g t new := setRow_heap w g cs new t _ h
theorem only_row (w : World) (g : Nat) (cs : Array Value) : w.grownBy (w.setRow g cs) (some g) :=
  ⟨rfl, rfl, rfl, by simp, fun i _ hne => setRow_other w g i cs (fun e => hne (by rw [e]))⟩
theorem Upd.other {w W : World} {g g' : Nat} {t t' : TypeId} {k : IntKind} {ws : List Int} {cs : Array Value} (h : Upd w W g t k ws) (h' : Whole w g' t' cs) (hne : g' ≠ g) : Whole W g' t' cs :=
  h'.only h.only (fun e => hne (by injection e))
theorem Upd.below {w W : World} {g : Nat} {t : TypeId} {k : IntKind} {ws : List Int} {w0 : World} {B : Nat} (h : Upd w W g t k ws) (hb : Below B w0 w) (hB : B ≤ g) (hs : B ≤ w.heap.size) : Below B w0 W :=
  hb.grown h.only hs (fun k hk => by injection hk with hk; omega)
/-- A cell of a row of integers. -/
theorem Whole.int {w : World} {g : Nat} {t : TypeId} {k : IntKind} {ws : List Int} (h : Whole w g t (rowI k ws)) (i : Nat) (hi : i < ws.length) : w.cell? ⟨g, i, none⟩ = some (.int k (ix ws i)) := by
  rw [h.at_, rowI_get k ws i hi]
theorem ix_bytes {ks : List Int} (h : ∀ b ∈ ks, 0 ≤ b ∧ b ≤ 255) (i : Nat) : 0 ≤ ix ks i ∧ ix ks i ≤ 255 := by
  unfold ix
  by_cases hi : i < ks.length
  · rw [show ks.getD i 0 = ks[i] from by simp [List.getD, hi]]; exact h _ (List.getElem_mem hi)
  · rw [show ks.getD i 0 = 0 from by simp [List.getD, Nat.le_of_not_lt hi]]; omega
theorem ne_some {a b : Nat} (h : a ≠ b) : some a ≠ some b := fun e => h (by injection e)
/-- The world has n blocks; a name that the walk does not open. -/
def Sz (w : World) (n : Nat) : Prop := w.heap.size = n
theorem Sz.set {w : World} {n : Nat} (h : Sz w n) (a : Addr) (u : Value) : Sz (w.setCell a u) n := by unfold Sz at *; simpa [World.setCell] using h
theorem Sz.drew {w : World} {n : Nat} (h : Sz w n) : Sz w.drew n := h
theorem Sz.drewN {w : World} {n : Nat} (h : Sz w n) (m : Nat) : Sz (w.drewN m) n := h
theorem Sz.alloc {w : World} {n : Nat} (h : Sz w n) (o : Obj) : Sz (w.alloc o) (n + 1) := by unfold Sz at *; simp [h]
theorem Sz.row {w : World} {n : Nat} (h : Sz w n) (g : Nat) (cs : Array Value) : Sz (w.setRow g cs) n := by unfold Sz at *; simp [h]
theorem rangeAt_below {w w' : World} {b o : Nat} {cs : List Value} (h : w.rangeAt b o cs) (hb : Below w.heap.size w w') : w'.rangeAt b o cs := fun j v hv => by
  have h1 := h j v hv
  exact (hb.cell (block_lt_of_cell h1)).trans h1
theorem Upd.next {w W W' : World} {g : Nat} {t : TypeId} {k : IntKind} {ws ws' : List Int} (h : Upd w W g t k ws) (h' : Upd W W' g t k ws') : Upd w W' g t k ws' := ⟨only_trans h.only h'.only, h'.blk⟩
/-! ### Slices of an array variable: run equations -/
section
variable {P : Program} {t e : TypeId} {n : Nat}
theorem elem_of (ht : P.underlying t = some (.array n e)) : P.arrayLen t = n ∧ P.elem t = e := by
  simp [Program.arrayLen, Program.elem, ht]
theorem size_run {w : World} (hs : (P.info? e).map (·.size) = some 1) : (sizeOf e).run P w = .ok 1 w := by
  cases hq : P.info? e with
  | none => simp [hq] at hs
  | some i => simp [hq] at hs; simp [sizeOf, typeInfo, hq, hs]
theorem slice_arr_from (ht : P.underlying t = some (.array n e)) (hs : (P.info? e).map (·.size) = some 1) (g : Nat) (l : Nat) (hl : l < n) (l' : Int) (hl' : l' = l) (w : World) :
    (Instr.sliceAt t (.pointer (some ⟨g, 0, none⟩)) (some (.int .i64 l')) none none).run P w = .ok (.slice (some ⟨g, l, none⟩) (n - l) (n - l)) w := by
  obtain ⟨h1, h2⟩ := elem_of ht
  rw [run_sliceAt_array_l w t _ (by rw [h1, h2]; exact ht) _ _ (by omega) (by rw [h1]; omega), h1, h2, size_run hs]
  subst hl'
  simp [slicedAt, Nat.ne_of_gt hl, Addr.add_mid]
theorem slice_arr_to (ht : P.underlying t = some (.array n e)) (hs : (P.info? e).map (·.size) = some 1) (g : Nat) (h : Nat) (hh : h ≤ n) (h' : Int) (hh' : h' = h) (w : World) (h0 : 0 < n) :
    (Instr.sliceAt t (.pointer (some ⟨g, 0, none⟩)) none (some (.int .i64 h')) none).run P w = .ok (.slice (some ⟨g, 0, none⟩) h n) w := by
  obtain ⟨h1, h2⟩ := elem_of ht
  rw [run_sliceAt_array_h w t _ (by rw [h1, h2]; exact ht) _ _ (by omega) (by rw [h1]; omega), h1, h2, size_run hs]
  subst hh'
  simp [slicedAt, Nat.ne_of_gt h0, Addr.add_mid]
end
end Go.Spk
namespace Go.Spk
open Go.RowKit
/-- A string's bytes as numbers. -/
def bI (s : ByteArray) : List Int := s.data.toList.map fun b => (b.toNat : Int)
def U8s (ks : List Int) : Prop := ∀ i, 0 ≤ ix ks i ∧ ix ks i ≤ 255
theorem bI_length (s : ByteArray) : (bI s).length = s.size := by show _ = s.data.size; simp [bI]
theorem U8s_of_mem {ks : List Int} (h : ∀ b ∈ ks, 0 ≤ b ∧ b ≤ 255) : U8s ks := ix_bytes h
theorem U8s_bI (s : ByteArray) : U8s (bI s) := ix_bytes fun b hb => by
  simp only [bI, List.mem_map] at hb
  obtain ⟨c, _, rfl⟩ := hb
  have := c.toNat_lt
  omega
theorem str_bI (s : ByteArray) : strOfNums (bI s) = s := by
  have : (bI s).map (fun n => UInt8.ofNat n.toNat) = s.data.toList := by
    simp only [bI, List.map_map]
    conv => rhs; rw [← List.map_id s.data.toList]
    apply List.map_congr_left
    intro b _
    simp
  unfold strOfNums
  rw [this]
theorem ix_bI (s : ByteArray) (i : Nat) (h : i < s.size) : ix (bI s) i = ((s[i]'h).toNat : Int) := by
  have h' : i < s.data.size := h
  have e : s.data[i]? = some s.data[i] := Array.getElem?_eq_getElem h'
  simp [ix, bI, List.getD, e]
  rfl
theorem bI_str {xs : List Int} (h : ∀ b ∈ xs, 0 ≤ b ∧ b ≤ 255) : bI (strOfNums xs) = xs := by
  unfold bI
  rw [strOfNums_data, List.map_map]
  conv => rhs; rw [← List.map_id xs]
  apply List.map_congr_left
  intro b hb
  have := h b hb
  simp
  omega
theorem mem_of_U8s {ks : List Int} (h : U8s ks) : ∀ b ∈ ks, 0 ≤ b ∧ b ≤ 255 := by
  intro b hb
  obtain ⟨i, hi, rfl⟩ := List.mem_iff_getElem.1 hb
  have := h i
  simpa [ix, List.getD, hi] using this

/-- Block g is a row of bytes that a conversion of a string laid (it bears a mark behind its end, at m). -/
def Bys (w : World) (g : Nat) (t : TypeId) (m : Nat) (ws : List Int) : Prop := w.heap[g]? = some (.cells (rowI .u8 ws) t (m, m + 1)) ∧ ws.length ≤ m
section
variable {w w' : World} {g : Nat} {t : TypeId} {m : Nat} {ws : List Int}
theorem Bys.inside (h : Bys w g t m ws) : g < w.heap.size := by
  refine Nat.lt_of_not_le fun hge => ?_
  have := Array.getElem?_eq_none hge
  have h1 := h.1
  simp [this] at h1
theorem Bys.cell (h : Bys w g t m ws) (i : Nat) (hi : i < ws.length) : w.cell? ⟨g, i, none⟩ = some (.int .u8 (ix ws i)) := by
  rw [cell_of_row w g i _ t _ h.1, rowI_get _ ws i hi]
theorem Bys.frozen (h : Bys w g t m ws) (i : Nat) (hi : i < ws.length) : w.frozen? ⟨g, i, none⟩ = false := by
  have h2 := h.2
  simp [World.frozen?, h.1]
  omega
theorem Bys.set (h : Bys w g t m ws) (i : Nat) (v : Int) : Bys (w.setCell ⟨g, i, none⟩ (.int .u8 v)) g t m (ws.set i v) := by
  refine ⟨?_, by rw [List.length_set]; exact h.2⟩
  rw [← rowI_set]
  simp [World.setCell, Array.getElem?_modify, h.1]
theorem Bys.other (h : Bys w g t m ws) {r : Option Nat} (hb : w.grownBy w' r) (hg : some g ≠ r) : Bys w' g t m ws := ⟨(hb.block g h.inside hg).trans h.1, h.2⟩
theorem Bys.drew (h : Bys w g t m ws) : Bys w.drew g t m ws := h
theorem Bys.drewN (h : Bys w g t m ws) (n : Nat) : Bys (w.drewN n) g t m ws := h
theorem Bys.alloc (h : Bys w g t m ws) (o : Obj) : Bys (w.alloc o) g t m ws := ⟨(Below.heap_alloc w o g h.inside).trans h.1, h.2⟩
theorem Bys.below {B : Nat} (h : Bys w g t m ws) (hb : Below B w w') (hg : g < B) : Bys w' g t m ws := ⟨(hb.block g hg).trans h.1, h.2⟩
end
theorem bytesRow_eq (s : ByteArray) (c : Nat) : bytesRow s c = rowI .u8 (bI s ++ List.replicate (c - s.size) 0) := by
  unfold bytesRow rowI bI
  apply Array.ext'
  simp [Function.comp_def]
/-- What a conversion of a string to bytes lays. -/
theorem Bys.made {w : World} {g : Nat} (hg : w.heap.size = g) (s : ByteArray) (c : Nat) (e : TypeId) :
    Bys (w.alloc (.cells (bytesRow s c) e ((bytesRow s c).size, (bytesRow s c).size + 1))).drew g e (bytesRow s c).size (bI s ++ List.replicate (c - s.size) 0) := by
  subst hg
  refine ⟨?_, ?_⟩
  · rw [bytesRow_eq]; exact heap_alloc_new w _
  · rw [bytesRow_eq, rowI_size]; exact Nat.le_refl _
theorem ix_append_left (a b : List Int) (i : Nat) (h : i < a.length) : ix (a ++ b) i = ix a i := by
  simp [ix, List.getD, List.getElem?_append_left h]
theorem ix_set (l : List Int) (i j : Nat) (v : Int) (h : i < l.length) : ix (l.set i v) j = if j = i then v else ix l j := by
  unfold ix List.getD
  rw [List.getElem?_set]
  by_cases e : i = j
  · subst e; simp [h]
  · simp [e, Ne.symm e]
theorem ix_ext {a b : List Int} (hl : a.length = b.length) (h : ∀ i, i < a.length → ix a i = ix b i) : a = b := by
  apply List.ext_getElem hl
  intro i h1 h2
  have := h i h1
  simpa [ix, List.getD, h1, h2] using this
end Go.Spk
namespace Go.Spk
open Go.RowKit
/-- The slice at block g, of length n and capacity cap, is the call's own (blocks from B on), holds the numbers xs of kind k. -/
def Own (w : World) (B : Nat) (e : TypeId) (k : IntKind) (g n cap : Nat) (xs : List Int) : Prop :=
  w.ownsRow B e 1 (.slice (some ⟨g, 0, none⟩) n cap) n (xs.map (Value.int k))
section
variable {w w' : World} {B : Nat} {e : TypeId} {k : IntKind} {g n cap : Nat} {xs : List Int}
theorem Own.len (h : Own w B e k g n cap xs) : xs.length = n := by have := h.1; simpa using this
theorem Own.lt (h : Own w B e k g n cap xs) : B ≤ g ∧ g < w.heap.size := World.ownsRow.lt h g (by simp [Value.ownBlock])
theorem Own.room (h : Own w B e k g n cap xs) : n ≤ cap ∧ cap ≤ maxLen := by
  rcases h.2 with ⟨h', _⟩ | ⟨g', cap', cur, h', _, _, h1, h2, _⟩
  · simp at h'
  · simp only [Value.slice.injEq, Option.some.injEq, Addr.mk.injEq, and_true, true_and] at h'
    obtain ⟨rfl, rfl⟩ := h'
    exact ⟨h1, h2⟩
theorem Own.cell (h : Own w B e k g n cap xs) (i : Nat) (hi : i < n) : w.cell? ⟨g, i, none⟩ = some (.int k (ix xs i)) := by
  have hl := h.len
  have h1 := World.ownsRow.cellAt (w := w) h i (by omega)
  rw [h1]
  simp [ix, List.getD, hl, hi]
theorem Own.frozen (h : Own w B e k g n cap xs) (i : Nat) : w.frozen? ⟨g, i, none⟩ = false := World.ownsRow.frozenAt (w := w) h i
theorem Own.set (h : Own w B e k g n cap xs) (i : Nat) (v : Int) : Own (w.setCell ⟨g, i, none⟩ (.int k v)) B e k g n cap (xs.set i v) := by
  have := (World.ownsRow.stored (w := w) h i (.int k v)).1
  rwa [show (xs.map (Value.int k)).set i (.int k v) = (xs.set i v).map (Value.int k) by rw [List.map_set]] at this
theorem Own.drew (h : Own w B e k g n cap xs) : Own w.drew B e k g n cap xs := h
theorem Own.drewN (h : Own w B e k g n cap xs) (m : Nat) : Own (w.drewN m) B e k g n cap xs := h
theorem Own.only (h : Own w B e k g n cap xs) {r : Option Nat} (hb : w.grownBy w' r) (hg : some g ≠ r) : Own w' B e k g n cap xs :=
  World.ownsRow.kept (w := w) h hb (.inr (by simpa [Value.ownBlock] using hg))
theorem Own.alloc (h : Own w B e k g n cap xs) (o : Obj) : Own (w.alloc o) B e k g n cap xs := h.only (World.grownBy_alloc w o none) (by simp)
theorem Own.below {B' : Nat} (h : Own w B e k g n cap xs) (hb : Below B' w w') (hg : g < B') : Own w' B e k g n cap xs := by
  obtain ⟨h0, h1⟩ := h
  refine ⟨h0, ?_⟩
  rcases h1 with h1 | ⟨g', cap', cur, h', r1, r2, r3⟩
  · exact .inl h1
  · refine .inr ⟨g', cap', cur, h', r1, ?_, r3⟩
    simp only [Value.slice.injEq, Option.some.injEq, Addr.mk.injEq, and_true, true_and] at h'
    obtain ⟨rfl, _⟩ := h'
    rw [hb.block g hg]; exact r2
theorem Own.less {B' : Nat} (h : Own w B e k g n cap xs) (hb : B' ≤ B) : Own w B' e k g n cap xs := by
  obtain ⟨h0, h1⟩ := h
  refine ⟨h0, ?_⟩
  rcases h1 with h1 | ⟨g', cap', cur, h', r1, r2⟩
  · exact .inl h1
  · exact .inr ⟨g', cap', cur, h', by omega, r2⟩
theorem Own.made {cs : Array Value} {m : Nat} (hg : w.heap.size = g) (hB : B ≤ g) (hm : m ≤ maxLen) (hc : cs = rowI k xs) (hn : xs.length = m) : Own (w.alloc (.cells cs e)) B e k g m m xs := by
  subst hg hc
  have := World.ownsRow_lit (base := B) (e := e) (size := 1) w (rowI k xs) m hB hm (by rw [rowI_size]; omega)
  simpa [Own, rowI] using this
theorem Own.rd (h : Own w B e k g n cap xs) : Rd w (some ⟨g, 0, none⟩) (xs.map (Value.int k)) := Rd.of_own (w := w) h (fun hne => by
  have := h.len
  cases xs with
  | nil => exact absurd rfl hne
  | cons a l => simp at this; omega)
end

section
variable {P : Program} {w : World}
theorem info_of {e : TypeId} {k : IntKind} {bytes : Nat} (h : (P.info? e).map (fun i => (i.zero, i.size, i.bytes)) = some (some (.int k 0), 1, bytes)) :
    ∃ i, P.info? e = some i ∧ i.zero = some (.int k 0) ∧ i.size = 1 ∧ i.bytes = bytes := by
  cases hq : P.info? e with
  | none => simp [hq] at h
  | some i => simp [hq] at h; exact ⟨i, rfl, h.1, h.2.1, h.2.2⟩
theorem news_ints {ad : Addr} {k : IntKind} {news : List Int} (h : ∀ j, j < news.length → w.cell? (ad.add j) = some (.int k (ix news j))) :
    ∀ j u, (news.map (Value.int k))[j]? = some u → w.cell? (ad.add j) = some u := by
  intro j u hu
  have hj : j < news.length := by have := (List.getElem?_eq_some_iff.1 hu).1; simpa using this
  rw [h j hj]
  simp [hj] at hu
  rw [← hu]
  simp [ix, List.getD, hj]
/-- append of numbers to an own slice: at the list of a plain region's operations. -/
theorem wpList_push {ops : Array Oper} {rest : List Oper} {o : Oper} {a : Act} {Q : Exit → Act → World → Prop} (hgd : o.guard = none) (s x : Operand) (t : TypeId)
    (ho : o.op = .call { callee := .builtin .append, args := #[s, x], argTypes := #[t, t] })
    {B : Nat} {e : TypeId} {k : IntKind} {g n cap : Nat} {xs : List Int} (bytes : Nat) (ht : P.underlying t = some (.slice e)) (hi : (P.info? e).map (fun i => (i.zero, i.size, i.bytes)) = some (some (.int k 0), 1, bytes))
    (hs : a.eval s = .slice (some ⟨g, 0, none⟩) n cap) (hown : Own w B e k g n cap xs)
    (ad : Addr) (m c : Nat) (news : List Int) (hx : a.eval x = .slice (some ad) m c) (hl : news.length = m) (hnews : ∀ j, j < news.length → w.cell? (ad.add j) = some (.int k (ix news j)))
    (hm : 0 < m) (h63 : n + m ≤ 1000000000000) (hby : bytes ≤ 8)
    (h : ∀ g' cap' w', Own w' B e k g' (n + m) cap' (xs ++ news) → w.grownBy w' (some g) → (g' = g ∨ w.heap.size ≤ g') → wpList P ops Q rest (a.put o.dst (.slice (some ⟨g', 0, none⟩) (n + m) cap')) w') : wpList P ops Q (o :: rest) a w := by
  obtain ⟨i, hi0, hi1, hi2, hi3⟩ := info_of hi
  refine wpList_append_lies w hgd s x t ho B e i (.int k 0) 1 bytes ht hi0 hi1 hi2 hi3 rfl (by omega) _ n _ hs hown ad m c (news.map (Value.int k)) hx (by simp [hl]) (news_ints hnews)
    (fun u hu => by obtain ⟨q, _, rfl⟩ := List.mem_map.1 hu; rfl) hm (by unfold maxLen; omega) (Nat.le_trans (Nat.mul_le_mul h63 hby) (by omega)) (by have := hown.lt; omega) w.heap.size rfl ?_
  intro g' cap' w' h1 h2 h3 _
  refine h g' cap' w' ?_ (by simpa [Value.ownBlock] using h2) ?_
  · unfold Own; rw [List.map_append]; exact h1
  · rcases h3 with h3 | h3
    · exact .inl (by simpa [Value.ownBlock] using h3.symm)
    · exact .inr (by omega)
/-- The same at a step of a region that draws its order. -/
theorem step_push {ops : Array Oper} {o : Oper} {a : Act} {K : Act → World → Prop} {Q : Exit → Act → World → Prop} {E : Prop} (hgd : o.guard = none) (s x : Operand) (t : TypeId)
    (ho : o.op = .call { callee := .builtin .append, args := #[s, x], argTypes := #[t, t] })
    {B : Nat} {e : TypeId} {k : IntKind} {g n cap : Nat} {xs : List Int} (bytes : Nat) (ht : P.underlying t = some (.slice e)) (hi : (P.info? e).map (fun i => (i.zero, i.size, i.bytes)) = some (some (.int k 0), 1, bytes))
    (hs : a.eval s = .slice (some ⟨g, 0, none⟩) n cap) (hown : Own w B e k g n cap xs)
    (ad : Addr) (m c : Nat) (news : List Int) (hx : a.eval x = .slice (some ad) m c) (hl : news.length = m) (hnews : ∀ j, j < news.length → w.cell? (ad.add j) = some (.int k (ix news j)))
    (hm : 0 < m) (h63 : n + m ≤ 1000000000000) (hby : bytes ≤ 8)
    (h : ∀ g' cap' w', Own w' B e k g' (n + m) cap' (xs ++ news) → w.grownBy w' (some g) → (g' = g ∨ w.heap.size ≤ g') → K (a.put o.dst (.slice (some ⟨g', 0, none⟩) (n + m) cap')) w') :
    if Region.wanted o (yielded ops a.tmps) = true then Oper.wp P o a w K Q else E := by
  obtain ⟨i, hi0, hi1, hi2, hi3⟩ := info_of hi
  refine step_append_lies w hgd s x t ho B e i (.int k 0) 1 bytes ht hi0 hi1 hi2 hi3 rfl (by omega) _ n _ hs hown ad m c (news.map (Value.int k)) hx (by simp [hl]) (news_ints hnews)
    (fun u hu => by obtain ⟨q, _, rfl⟩ := List.mem_map.1 hu; rfl) hm (by unfold maxLen; omega) (Nat.le_trans (Nat.mul_le_mul h63 hby) (by omega)) (by have := hown.lt; omega) w.heap.size rfl ?_
  intro g' cap' w' h1 h2 h3 _
  refine h g' cap' w' ?_ (by simpa [Value.ownBlock] using h2) ?_
  · unfold Own; rw [List.map_append]; exact h1
  · rcases h3 with h3 | h3
    · exact .inl (by simpa [Value.ownBlock] using h3.symm)
    · exact .inr (by omega)
theorem cell_one {k : IntKind} {g : Nat} {v : Int} (h : w.cell? ⟨g, 0, none⟩ = some (.int k v)) : ∀ j, j < [v].length → w.cell? ((⟨g, 0, none⟩ : Addr).add j) = some (.int k (ix [v] j)) := by
  intro j hj
  obtain rfl : j = 0 := by simp at hj; exact hj
  exact h
end
end Go.Spk
namespace Go.Spk
open Go.RowKit
theorem news_whole {w : World} {g : Nat} {t : TypeId} {k : IntKind} {l : List Int} (h : Whole w g t (rowI k l)) : ∀ j, j < l.length → w.cell? ((⟨g, 0, none⟩ : Addr).add j) = some (.int k (ix l j)) :=
  fun j hj => by rw [Addr.add_mid, Nat.zero_add]; exact h.int j hj
theorem Own.news {w : World} {B : Nat} {e : TypeId} {k : IntKind} {g n cap : Nat} {xs : List Int} (h : Own w B e k g n cap xs) : ∀ j, j < xs.length → w.cell? ((⟨g, 0, none⟩ : Addr).add j) = some (.int k (ix xs j)) :=
  fun j hj => by rw [Addr.add_mid, Nat.zero_add]; exact h.cell j (by rw [← h.len]; exact hj)
/-- An operation that yields a value whenever it is run to its end. -/
def isVal (o : Oper) : Bool :=
  match o.op with
  | .move _ | .assign _ | .pick .. | .binOp .. | .unOp .. | .convert .. | .slice .. | .fieldAddr .. | .field .. | .indexAddr .. | .index .. | .extract .. | .build .. | .makeInterface .. | .load .. => true
  | _ => false
section
variable {P : Program} {ops : Array Oper} {Q : Exit → Act → World → Prop} {md : Region.Mode}
theorem value_of_andThen {r : Result Value} {f : Value → World → Result Next} (hf : f = fun a w => .ok (.value a) w) {w : World} {v : Value} (h : Oper.quietUpon P (fun _ => True) w v (r.andThen f)) :
    r.andThen f = .ok (.value v) w := by
  subst hf
  cases r with
  | ok u w' => simp only [Result.andThen_ok, Oper.quietUpon] at h ⊢; rw [h.1, h.2]
  | halt x w' => simp [Result.andThen, Oper.quietUpon] at h
theorem val_of_v (s : Sem Value) {u : Next} {w w' : World} (hr : (do pure (Next.value (← s)) : Sem Next).run P w = .ok u w') : ∃ y, u = .value y := by
  simp only [Sem.run_bind] at hr
  cases hq : s.run P w with
  | ok y w2 => rw [hq] at hr; simp only [Result.andThen_ok, Sem.run_pure, Result.ok.injEq] at hr; exact ⟨_, hr.1.symm⟩
  | halt x w2 => rw [hq] at hr; simp [Result.andThen] at hr
theorem val_of_pick (s : Sem Bool) (x y : Value) {u : Next} {w w' : World} (hr : (do pure (Next.value (if ← s then x else y)) : Sem Next).run P w = .ok u w') : ∃ y, u = .value y := by
  simp only [Sem.run_bind] at hr
  cases hq : s.run P w with
  | ok y w2 => rw [hq] at hr; simp only [Result.andThen_ok, Sem.run_pure, Result.ok.injEq] at hr; exact ⟨_, hr.1.symm⟩
  | halt x w2 => rw [hq] at hr; simp [Result.andThen] at hr
theorem yields_of_quiet {o : Oper} {a : Act} {v : Value} (hv : isVal o = true) (h : ∀ w, True → o.quietAt P a (fun _ => True) w v) : ∀ w, (execOp a.eval o).run P w = .ok (.value v) w := by
  intro w
  have hq := h w trivial
  unfold Oper.quietAt at hq
  have key : ∀ u w', (execOp a.eval o).run P w = .ok u w' → ∃ y, u = .value y := by
    intro u w' hr
    unfold isVal at hv
    unfold execOp at hr
    cases ho : o.op <;> simp only [ho] at hv hr <;> first | (cases hv; done) | skip
    all_goals first
      | (exact val_of_v _ hr)
      | (simp only [Sem.run_pure, Result.ok.injEq] at hr; exact ⟨_, hr.1.symm⟩)
      | (exact val_of_pick _ _ _ hr)
  cases hr : (execOp a.eval o).run P w with
  | ok u w' =>
    obtain ⟨y, rfl⟩ := key u w' hr
    rw [hr] at hq
    simp only [Oper.quietUpon] at hq
    rw [hq.1, hq.2]
  | halt x w' => rw [hr] at hq; simp [Oper.quietUpon] at hq
/-- n heads, each of which may come first, in the text's order; then a forced tail. -/
def pureTailB (ops : Array Oper) (n : Nat) : Bool :=
  Region.noSelect ops && decide (n < ops.size) && Region.lexHead .any ops (ops.size - n) n 0 (Array.replicate ops.size false) && (ops.toList.take n).all isVal
theorem wpAny_pure {g : Nat} (hs : Region.noSelect ops = true) (hQ : ∀ c (a : Act) (d : Option Tmp) (v : Value) (w : World), Q (.panic c) (a.put d v) w → Q (.panic c) a w)
    {Lq : Act → Prop} {w : World} (hL : ∀ listed a k, Region.seqB .any ops g k listed = true → k + g = ops.size → Lq a → wpAny P .any ops Q g listed a w) :
    ∀ (l : List Oper) (k : Nat) (listed : Array Bool) (a : Act), (∀ j, j < l.length → l[j]? = ops[k + j]?) → k + l.length + g = ops.size → l.all isVal = true →
      Region.lexHead .any ops g l.length k listed = true → wpQuiet P ops (fun _ => True) Lq l a → wpAny P .any ops Q (l.length + g) listed a w
  | [], k, listed, a, _, hk, _, hB, h => by
    rw [List.length_nil, Nat.zero_add]
    exact hL listed a k (by simpa [Region.lexHead] using hB) (by simpa using hk) h
  | o :: l, k, listed, a, hl, hk, hv, hB, h => by
    have h0 : ops[k]? = some o := by simpa using (hl 0 (by simp)).symm
    simp only [List.length_cons, Region.lexHead, Bool.and_eq_true] at hB
    obtain ⟨⟨hr, hf⟩, hB'⟩ := hB
    simp only [List.all_cons, Bool.and_eq_true] at hv
    have hqo : qOp P ops (fun _ => True) k (wpQuiet P ops (fun _ => True) Lq l) a := by unfold qOp; simp only [h0]; exact h
    obtain ⟨v, hy, hK⟩ := yieldsIn_of_qOp h0 hqo
    have hy' : Yields P ops o v a := by
      rcases hy with ⟨hw, hh⟩ | hh
      · exact .inl ⟨hw, yields_of_quiet hv.1 hh⟩
      · exact .inr hh
    have := wpAny_pure hs hQ hL l (k + 1) (listed.setIfInBounds k true) (a.put o.dst v) (fun j hj => by have := hl (j + 1) (by simp; omega); simpa [Nat.add_assoc, Nat.add_comm 1 j] using this)
      (by simp only [List.length_cons] at hk; omega) hv.2 hB' hK
    rw [List.length_cons, show l.length + 1 + g = (l.length + g) + 1 by omega]
    exact wpAny_take h0 hs hf hr (fun c a w h => hQ c a o.dst v w h) hy' this
/-- A region that draws its order: n operations that yield their values in every world, walked in the text's order, then the tail, as a plain list. -/
theorem wp_region_pure_tail {id : Nat} {a : Act} {w : World} {l : List Oper} (n : Nat) (hm : P.follows .mixedOrders = true) (hB : pureTailB l.toArray n = true)
    (hQ : ∀ c (a : Act) (d : Option Tmp) (v : Value) (w : World), Q (.panic c) (a.put d v) w → Q (.panic c) a w)
    (h : wpQuiet P l.toArray (fun _ => True) (fun a' => wpList P l.toArray Q (l.drop n) a' w.drew) (l.take n) a) : (Code.region id l.toArray true).wp P Q a w := by
  simp only [pureTailB, Bool.and_eq_true, decide_eq_true_eq] at hB
  obtain ⟨⟨⟨hs, hn⟩, hlex⟩, hval⟩ := hB
  have hn' : n < l.length := by simpa using hn
  have htl : (l.take n).length = n := by simp; omega
  have hdl : (l.drop n).length = l.toArray.size - n := by simp
  refine wp_region_any hm ?_
  have H := wpAny_pure (P := P) (Q := Q) (ops := l.toArray) (g := l.toArray.size - n) (w := w.drew) hs hQ (Lq := fun a' => wpList P l.toArray Q (l.drop n) a' w.drew)
    (fun listed a' k hseq hk hw => by
      have hk' : k = n := by have : l.toArray.size = l.length := by simp
                             omega
      subst hk'
      have := wpAny_of_seq (md := .any) (Q' := Q) (l.drop k) k listed a' w.drew (fun j => by simp [List.getElem?_drop]) (by rw [hdl]; exact hseq) hw
      rwa [hdl] at this)
    (l.take n) 0 (Array.replicate l.toArray.size false) a (fun j hj => by
      have hj' : j < n := by rw [htl] at hj; exact hj
      simp [hj']) (by rw [htl]; have : l.toArray.size = l.length := by simp
                      omega) (by simpa using hval) (by rw [htl]; exact hlex) h
  rw [htl, show n + (l.toArray.size - n) = l.toArray.size by omega] at H
  exact H
end
end Go.Spk
namespace Go.Spk
open Go.RowKit
section
variable {P : Program} {ops : Array Oper} {C : World → Prop} {Q : Act → Prop}
theorem quiet_want {o : Oper} {a : Act} {K : Act → Prop} {b : Act} (hw : Region.wanted o (yielded ops a.tmps) = true) (h : ∃ v, (∀ w, C w → o.quietAt P a C w v) ∧ K (a.put o.dst v)) :
    if Region.wanted o (yielded ops a.tmps) then o.quiet P a C K else K b := by
  rw [if_pos hw]; exact h
theorem quietAt_val {o : Oper} {a : Act} {w : World} {v : Value} (h : (execOp a.eval o).run P w = .ok (.value v) w) : o.quietAt P a C w v := by
  unfold Oper.quietAt; rw [h]; exact ⟨rfl, rfl⟩
theorem quietAt_call {o : Oper} {a : Act} {w : World} {v : Value} {f : FuncId} {args : Array Value} (h : (execOp a.eval o).run P w = .ok (.enter f args) w) (hc : Calls P f args w (fun e w'' => e = .returned v ∧ C w'')) : o.quietAt P a C w v := by
  unfold Oper.quietAt; rw [h]; exact ⟨rfl, hc⟩
theorem quiet_load {o : Oper} {a : Act} {K : Act → Prop} {b : Act} (hw : Region.wanted o (yielded ops a.tmps) = true) (ty : TypeId) (x : Operand) (ho : o.op = .load ty x)
    (g : Nat) (hx : a.eval x = .pointer (some ⟨g, 0, none⟩)) (t : TypeId) (cs : Array Value) (d : TypeDesc) (hS : ∀ w, C w → Whole w g t cs)
    (hu : P.underlying ty = some d) (hd : d.isRow = true) (hi : (P.info? ty).map (·.size) = some cs.size) (h2 : K (a.put o.dst (.agg cs))) :
    if Region.wanted o (yielded ops a.tmps) then o.quiet P a C K else K b := by
  refine quiet_want hw ⟨.agg cs, fun w hC => quietAt_val ?_, h2⟩
  have h := yieldsIf_load_mid (P := P) (ops := ops) (S := C) (op := o) (a := a) hw ty x ho g 0 hx cs.toList d (fun w hC j v hv => by
    rw [Nat.zero_add, (hS w hC).at_]; simpa using hv) hu hd (by simpa using hi)
  rcases h with ⟨_, h⟩ | ⟨h, _⟩
  · simpa using h w hC
  · rw [hw] at h; cases h
/-- A region that draws its order, walked in the text's order in one class of worlds. -/
theorem wp_region_class {id : Nat} {Q : Exit → Act → World → Prop} {a : Act} {w : World} {l : List Oper} (C : World → Prop) (hm : P.follows .mixedOrders = true) (hB : Region.lexB .any l.toArray = true)
    (hC : C w.drew) (h : wpQuiet P l.toArray C (fun a' => ∀ w', C w' → Q .normal a' w') l a) : (Code.region id l.toArray true).wp P Q a w :=
  wp_region_quiet (C := C) hm hB hC (by simpa using h)
end
end Go.Spk
namespace Go.Spk
open Go.RowKit
section
variable {P : Program} {ops : Array Oper} {md : Region.Mode} {S : Type} {Cl : S → World → Prop}
def loudUpon (P : Program) (Cl : S → World → Prop) (K : Value → S → Prop) : Result Next → Prop
  | .ok (.value u) w' => ∃ s', Cl s' w' ∧ K u s'
  | .ok .skip w' => ∃ s', Cl s' w' ∧ K undef s'
  | .ok (.enter f args) w' => Calls P f args w' (fun e w'' => ∃ v s', e = .returned v ∧ Cl s' w'' ∧ K v s')
  | _ => False
theorem loudUpon_mono {K K' : Value → S → Prop} (h : ∀ v s, K v s → K' v s) {r : Result Next} (hr : loudUpon P Cl K r) : loudUpon P Cl K' r := by
  cases r with
  | ok n w' =>
    cases n <;> simp only [loudUpon] at hr ⊢
    case value u => obtain ⟨s', h1, h2⟩ := hr; exact ⟨s', h1, h _ _ h2⟩
    case skip => obtain ⟨s', h1, h2⟩ := hr; exact ⟨s', h1, h _ _ h2⟩
    case enter f args => exact hr.mono fun e w'' ⟨v, s', h0, h1, h2⟩ => ⟨v, s', h0, h1, h _ _ h2⟩
  | halt x w' => simp only [loudUpon] at hr
def lOp (P : Program) (ops : Array Oper) (Cl : S → World → Prop) (i : Nat) (K : Act → S → Prop) (a : Act) (s : S) : Prop :=
  match ops[i]? with
  | none => K a s
  | some o => if Region.wanted o (yielded ops a.tmps) then ∀ w, Cl s w → loudUpon P Cl (fun v s' => K (a.put o.dst v) s') ((execOp a.eval o).run P w) else K (a.put o.dst undef) s
theorem lOp_mono {i : Nat} {a : Act} {s : S} {K K' : Act → S → Prop} (h : ∀ a s, K a s → K' a s) (hh : lOp P ops Cl i K a s) : lOp P ops Cl i K' a s := by
  unfold lOp at *
  split
  · exact h _ _ (by simpa [*] using hh)
  · rename_i o ho
    simp only [ho] at hh
    split
    · rename_i hw; simp only [hw, if_true] at hh; exact fun w hw' => loudUpon_mono (fun v s' => h _ _) (hh w hw')
    · rename_i hw; simp only [hw] at hh; exact h _ _ hh
/-- Whatever order is picked from here on. -/
def wpAnyG (P : Program) (md : Region.Mode) (ops : Array Oper) (Cl : S → World → Prop) (Q : Act → S → Prop) : Nat → Array Bool → Act → S → Prop
  | 0, listed, a, s => Region.ready md ops listed = [] ∧ Q a s
  | fuel + 1, listed, a, s =>
    (Region.ready md ops listed = [] → Q a s) ∧
    ∀ i ∈ Region.ready md ops listed, lOp P ops Cl i (wpAnyG P md ops Cl Q fuel (listed.setIfInBounds i true)) a s
theorem wpOp_of_lOp {i : Nat} {a : Act} {s : S} {K : Act → S → Prop} {K' : Act → World → Prop} {Q' : Exit → Act → World → Prop} {w : World} (hC : Cl s w) (h : ∀ a s' w', Cl s' w' → K a s' → K' a w') (hh : lOp P ops Cl i K a s) : wpOp P ops Q' i K' a w := by
  unfold lOp at hh
  unfold wpOp
  split
  · rename_i ho; simp only [ho] at hh; exact h _ _ _ hC hh
  · rename_i o ho
    simp only [ho] at hh
    split
    · rename_i hw
      simp only [hw, if_true] at hh
      refine .inl ?_
      have h3 := hh w hC
      unfold Oper.wp
      generalize (execOp a.eval o).run P w = r at *
      cases r with
      | ok n w' =>
        cases n <;> simp only [loudUpon] at h3 <;> simp only [Oper.upon]
        case value u => obtain ⟨s', h1, h2⟩ := h3; exact h _ _ _ h1 h2
        case skip => obtain ⟨s', h1, h2⟩ := h3; exact h _ _ _ h1 h2
        case enter f args => exact h3.mono fun e w'' ⟨v, s', h0, h1, h2⟩ => by subst h0; exact h _ _ _ h1 h2
      | halt x w' => simp only [loudUpon] at h3
    · rename_i hw; simp only [hw] at hh; exact h _ _ _ hC hh
theorem wpAny_of_G {Q : Act → S → Prop} {Q' : Exit → Act → World → Prop} (hQ : ∀ a s w, Cl s w → Q a s → Q' .normal a w) : ∀ (fuel : Nat) (listed : Array Bool) (a : Act) (s : S) (w : World), Cl s w →
    wpAnyG P md ops Cl Q fuel listed a s → wpAny P md ops Q' fuel listed a w
  | 0, _, _, _, _, hw, h => ⟨h.1, hQ _ _ _ hw h.2⟩
  | fuel + 1, _, _, _, _, hw, h => ⟨fun h0 => hQ _ _ _ hw (h.1 h0), fun i hi => wpOp_of_lOp hw (fun a' s' w' hw' => wpAny_of_G hQ fuel _ a' s' w' hw') (h.2 i hi)⟩
/-- In every state, in every world of its class, the operation leaves v, and a world of the same class. -/
def YieldsG (P : Program) (ops : Array Oper) (Cl : S → World → Prop) (o : Oper) (v : Value) (a : Act) : Prop :=
  (Region.wanted o (yielded ops a.tmps) = true ∧ ∀ s w, Cl s w → o.quietAt P a (Cl s) w v) ∨
  (Region.wanted o (yielded ops a.tmps) = false ∧ v = undef)
theorem YieldsG.lOp {i : Nat} {o : Oper} {v : Value} {a : Act} {s : S} (hi : ops[i]? = some o) (hy : YieldsG P ops Cl o v a) {K : Act → S → Prop} (h : K (a.put o.dst v) s) : lOp P ops Cl i K a s := by
  unfold Go.Spk.lOp
  simp only [hi]
  rcases hy with ⟨hw, hv⟩ | ⟨hw, rfl⟩
  · simp only [hw, if_true]
    intro w hC
    have h3 := hv s w hC
    unfold Oper.quietAt at h3
    generalize (execOp a.eval o).run P w = r at *
    cases r with
    | ok n w' =>
      cases n <;> simp only [Oper.quietUpon] at h3 <;> simp only [loudUpon]
      case value u => obtain ⟨e1, e2⟩ := h3; subst e1 e2; exact ⟨s, hC, h⟩
      case skip => obtain ⟨e1, e2⟩ := h3; subst e1 e2; exact ⟨s, hC, h⟩
      case enter f args => obtain ⟨e1, hc⟩ := h3; subst e1; exact hc.mono fun e w'' ⟨he, hw''⟩ => ⟨v, s, he, hw'', h⟩
    | halt x w' => simp only [Oper.quietUpon] at h3
  · simp only [hw, Bool.false_eq_true, if_false]; exact h
theorem YieldsG.of_same {o : Oper} {v : Value} {a a' : Act} (hy : YieldsG P ops Cl o v a) (he : execOp a'.eval o = execOp a.eval o)
    (hw : Region.wanted o (yielded ops a'.tmps) = Region.wanted o (yielded ops a.tmps)) : YieldsG P ops Cl o v a' := by
  unfold YieldsG Oper.quietAt at *
  rw [he, hw]
  exact hy
theorem lOp_put {j : Nat} {oi oj : Oper} {v : Value} (hj : ops[j]? = some oj) (hap : oi.apart ops oj = true)
    (hsi : ∀ cs b, oi.op ≠ .select cs b) (hsj : ∀ cs b, oj.op ≠ .select cs b) {K : Act → S → Prop} {a : Act} {s : S}
    (hy : YieldsG P ops Cl oi v a) (h : lOp P ops Cl j K (a.put oi.dst v) s) :
    lOp P ops Cl j (fun a' s' => YieldsG P ops Cl oi v a' ∧ K (a'.put oi.dst v) s') a s := by
  obtain ⟨h1, h2, h3⟩ := Oper.apart_spec hap
  have keep : ∀ (a : Act), YieldsG P ops Cl oi v a → ∀ u, YieldsG P ops Cl oi v (a.put oj.dst u) := fun a hy u =>
    hy.of_same (execOp_put oi hsi a oj.dst u h3) (wanted_put oi a oj.dst u h3)
  unfold lOp at *
  simp only [hj] at *
  rw [wanted_put oj a oi.dst v h1] at h
  split
  · rename_i hw
    simp only [hw, if_true] at h
    intro w hC
    have h4 := h w hC
    rw [execOp_put oj hsj a oi.dst v h1] at h4
    exact loudUpon_mono (fun u s' hk => ⟨keep a hy u, by rw [← Act.put_comm a v u h2]; exact hk⟩) h4
  · rename_i hw
    simp only [hw] at h
    exact ⟨keep a hy _, by rw [← Act.put_comm a v undef h2]; exact h⟩
theorem wpAnyG_first {Q : Act → S → Prop} {i : Nat} {oi : Oper} {v : Value} (hi : ops[i]? = some oi) (hsel : ∀ (j : Nat) (o : Oper) cs b, ops[j]? = some o → o.op ≠ .select cs b) :
    ∀ (fuel : Nat) (listed : Array Bool) (a : Act) (s : S),
      (∀ j oj, ops[j]? = some oj → j ≠ i → listed.getD j true = false → (∀ e ∈ oj.after, Region.binds md e = true → e.on ≠ i) → oi.apart ops oj = true) →
      i ∈ Region.ready md ops listed → YieldsG P ops Cl oi v a →
      wpAnyG P md ops Cl Q fuel (listed.setIfInBounds i true) (a.put oi.dst v) s → wpAnyG P md ops Cl Q (fuel + 1) listed a s := by
  intro fuel
  induction fuel with
  | zero =>
    intro listed a s _ hr hy H
    refine ⟨fun h => (by rw [h] at hr; cases hr), fun j hj => ?_⟩
    by_cases hji : j = i
    · subst hji; exact hy.lOp hi H
    · have := ready_mono hj hji
      rw [H.1] at this
      cases this
  | succ fuel ih =>
    intro listed a s hfree hr hy H
    refine ⟨fun h => (by rw [h] at hr; cases hr), fun j hj => ?_⟩
    by_cases hji : j = i
    · subst hji; exact hy.lOp hi H
    · have h1 := H.2 j (ready_mono hj hji)
      obtain ⟨hjun, oj, hoj, hall⟩ := mem_ready.1 hj
      have hnot : ∀ e ∈ oj.after, Region.binds md e = true → e.on ≠ i := fun e he hb heq => by
        have h1 := hall e he hb
        have h0 := (mem_ready.1 hr).1
        rw [heq] at h1
        rcases Nat.lt_or_ge i listed.size with h' | h'
        · simp [h'] at h0 h1; rw [h0] at h1; cases h1
        · simp [Array.getElem?_eq_none h'] at h1
      have h2 := lOp_put hoj (hfree j oj hoj hji hjun hnot) (fun cs b => hsel i oi cs b hi) (fun cs b => hsel j oj cs b hoj) hy h1
      have hfree' : ∀ k ok, ops[k]? = some ok → k ≠ i → (listed.setIfInBounds j true).getD k true = false →
          (∀ e ∈ ok.after, Region.binds md e = true → e.on ≠ i) → oi.apart ops ok = true := fun k ok hk hki hun hno => by
        refine hfree k ok hk hki ?_ hno
        by_cases hjk : j = k
        · subst hjk; exact hjun
        · rw [getD_set_ne true hjk] at hun; exact hun
      refine lOp_mono (fun a' s' h3 => ih (listed.setIfInBounds j true) a' s' hfree' (ready_mono hr (Ne.symm hji)) h3.1 ?_) h2
      rw [Array.setIfInBounds_comm _ _ hji]
      exact h3.2
/-- One operation in every world of every state's class. -/
def quietG (P : Program) (o : Oper) (a : Act) (Cl : S → World → Prop) (next : Act → Prop) : Prop := ∃ v, (∀ s w, Cl s w → o.quietAt P a (Cl s) w v) ∧ next (a.put o.dst v)
def wpHead (P : Program) (ops : Array Oper) (Cl : S → World → Prop) (Q : Act → Prop) : List Oper → Act → Prop
  | [], a => Q a
  | o :: rest, a => if Region.wanted o (yielded ops a.tmps) then quietG P o a Cl (wpHead P ops Cl Q rest) else wpHead P ops Cl Q rest (a.put o.dst undef)
def wpLoud (P : Program) (ops : Array Oper) (Cl : S → World → Prop) (Q : Act → S → Prop) : List Oper → Act → S → Prop
  | [], a, s => Q a s
  | o :: rest, a, s => if Region.wanted o (yielded ops a.tmps) then ∀ w, Cl s w → loudUpon P Cl (fun v s' => wpLoud P ops Cl Q rest (a.put o.dst v) s') ((execOp a.eval o).run P w) else wpLoud P ops Cl Q rest (a.put o.dst undef) s
theorem wpAnyG_of_seq {Q : Act → S → Prop} : ∀ (l : List Oper) (k : Nat) (listed : Array Bool) (a : Act) (s : S), (∀ j, l[j]? = ops[k + j]?) →
    Region.seqB md ops l.length k listed = true → wpLoud P ops Cl Q l a s → wpAnyG P md ops Cl Q l.length listed a s
  | [], _, _, _, _, _, hB, h => ⟨by simpa [Region.seqB] using hB, h⟩
  | o :: l, k, listed, a, s, hl, hB, h => by
    have h0 : ops[k]? = some o := by simpa using (hl 0).symm
    simp only [List.length_cons, Region.seqB, Bool.and_eq_true, decide_eq_true_eq] at hB
    refine ⟨fun h1 => (by rw [hB.1] at h1; cases h1), fun i hi => ?_⟩
    rw [hB.1] at hi
    have hik : i = k := by simpa using hi
    subst hik
    have hw : lOp P ops Cl i (wpLoud P ops Cl Q l) a s := by unfold lOp; simp only [h0]; exact h
    exact lOp_mono (fun a' s' h' => wpAnyG_of_seq l (i + 1) _ a' s' (fun j => by have := hl (j + 1); simpa [Nat.add_assoc, Nat.add_comm 1 j] using this) hB.2 h') hw
theorem wpAnyG_lex {Q : Act → S → Prop} {g : Nat} {L : Act → S → Prop} (hs : Region.noSelect ops = true) (s : S)
    (hL : ∀ listed a k, Region.seqB md ops g k listed = true → k + g = ops.size → L a s → wpAnyG P md ops Cl Q g listed a s) :
    ∀ (l : List Oper) (k : Nat) (listed : Array Bool) (a : Act), (∀ j, j < l.length → l[j]? = ops[k + j]?) → k + l.length + g = ops.size →
      Region.lexHead md ops g l.length k listed = true → wpHead P ops Cl (fun a' => L a' s) l a → wpAnyG P md ops Cl Q (l.length + g) listed a s
  | [], k, listed, a, _, hk, hB, h => by
    rw [List.length_nil, Nat.zero_add]
    exact hL listed a k (by simpa [Region.lexHead] using hB) (by simpa using hk) h
  | o :: l, k, listed, a, hl, hk, hB, h => by
    have h0 : ops[k]? = some o := by simpa using (hl 0 (by simp)).symm
    simp only [List.length_cons, Region.lexHead, Bool.and_eq_true] at hB
    obtain ⟨⟨hr, hf⟩, hB'⟩ := hB
    have hy : ∃ v, YieldsG P ops Cl o v a ∧ wpHead P ops Cl (fun a' => L a' s) l (a.put o.dst v) := by
      simp only [wpHead] at h
      by_cases hw : Region.wanted o (yielded ops a.tmps) = true
      · rw [if_pos hw] at h
        obtain ⟨v, h1, h2⟩ := h
        exact ⟨v, .inl ⟨hw, h1⟩, h2⟩
      · rw [if_neg hw] at h
        exact ⟨undef, .inr ⟨by simpa using hw, rfl⟩, h⟩
    obtain ⟨v, hy, hK⟩ := hy
    have := wpAnyG_lex hs s hL l (k + 1) (listed.setIfInBounds k true) (a.put o.dst v) (fun j hj => by have := hl (j + 1) (by simp; omega); simpa [Nat.add_assoc, Nat.add_comm 1 j] using this)
      (by simp only [List.length_cons] at hk; omega) hB' hK
    rw [List.length_cons, show l.length + 1 + g = (l.length + g) + 1 by omega]
    exact wpAnyG_first h0 (Region.noSelect_spec hs) (l.length + g) listed a s (Region.free_spec h0 hf) (by simpa using hr) hy this
def headTailB (ops : Array Oper) (n : Nat) : Bool :=
  Region.noSelect ops && decide (n < ops.size) && Region.lexHead .any ops (ops.size - n) n 0 (Array.replicate ops.size false)
/-- **n heads that yield their values in every state's class, in the text's order; then a forced tail that moves the state.** -/
theorem wp_region_loud {id : Nat} {Q : Exit → Act → World → Prop} {a : Act} {w : World} {l : List Oper} (n : Nat) (Cl : S → World → Prop) (s : S) (hm : P.follows .mixedOrders = true) (hB : headTailB l.toArray n = true)
    (hC : Cl s w.drew) (h : wpHead P l.toArray Cl (fun a' => wpLoud P l.toArray Cl (fun a s => ∀ w, Cl s w → Q .normal a w) (l.drop n) a' s) (l.take n) a) : (Code.region id l.toArray true).wp P Q a w := by
  simp only [headTailB, Bool.and_eq_true, decide_eq_true_eq] at hB
  obtain ⟨⟨hs, hn⟩, hlex⟩ := hB
  have hn' : n < l.length := by simpa using hn
  have htl : (l.take n).length = n := by simp; omega
  have hdl : (l.drop n).length = l.toArray.size - n := by simp
  have hsz : l.toArray.size = l.length := by simp
  refine wp_region_any hm (wpAny_of_G (Cl := Cl) (Q := fun a s => ∀ w, Cl s w → Q .normal a w) (fun a s w hw h => h w hw) _ _ _ s _ hC ?_)
  have H := wpAnyG_lex (P := P) (md := .any) (Q := fun a s => ∀ w, Cl s w → Q .normal a w) (ops := l.toArray) (g := l.toArray.size - n) (L := fun a' s => wpLoud P l.toArray Cl (fun a s => ∀ w, Cl s w → Q .normal a w) (l.drop n) a' s) hs s
    (fun listed a' k hseq hk hw => by
      have hk' : k = n := by omega
      subst hk'
      have := wpAnyG_of_seq (md := .any) (l.drop k) k listed a' s (fun j => by simp [List.getElem?_drop]) (by rw [hdl]; exact hseq) hw
      rwa [hdl] at this)
    (l.take n) 0 (Array.replicate l.toArray.size false) a (fun j hj => by
      have hj' : j < n := by rw [htl] at hj; exact hj
      simp [hj']) (by rw [htl]; omega) (by rw [htl]; exact hlex) h
  rw [htl, show n + (l.toArray.size - n) = l.toArray.size by omega] at H
  exact H
end
/-! ### The class of a region that makes a block: what stood before it stays -/
/-- The states: nothing made yet; block p made, holding cs. -/
def Mk (w : World) (t : TypeId) : Option (Nat × Array Value) → World → Prop
  | none, W => Below w.heap.size w W
  | some (p, cs), W => Below w.heap.size w W ∧ w.heap.size ≤ p ∧ Whole W p t cs
section
variable {P : Program} {ops : Array Oper} {w : World} {t : TypeId}
theorem Mk.base {s : Option (Nat × Array Value)} {W : World} (h : Mk w t s W) : Below w.heap.size w W := by
  cases s with
  | none => exact h
  | some q => exact h.1
theorem Mk.grows {s : Option (Nat × Array Value)} {W W' : World} (h : Mk w t s W) (hb : Below W.heap.size W W') : Mk w t s W' := by
  have h0 := h.base
  cases s with
  | none => exact h0.trans (hb.mono h0.size)
  | some q => exact ⟨h0.trans (hb.mono h0.size), h.2.1, h.2.2.below hb h.2.2.inside⟩
theorem Mk.start (w : World) (t : TypeId) : Mk w t none w.drew := below_drawnN (Below.refl _ w) 1
theorem wpHead_step {S : Type} {Cl : S → World → Prop} {Q : Act → Prop} {a : Act} {o : Oper} {rest : List Oper}
    (h : ∀ K : Act → Prop, (∀ a, wpHead P ops Cl Q rest a → K a) → if Region.wanted o (yielded ops a.tmps) then quietG P o a Cl K else K (a.put o.dst undef)) : wpHead P ops Cl Q (o :: rest) a :=
  h _ (fun _ h => h)
theorem wpHead_nil {S : Type} {Cl : S → World → Prop} {Q : Act → Prop} {a : Act} (h : Q a) : wpHead P ops Cl Q [] a := h
theorem head_want {S : Type} {Cl : S → World → Prop} {o : Oper} {a : Act} {K : Act → Prop} {b : Act} (hw : Region.wanted o (yielded ops a.tmps) = true) (h : ∃ v, (∀ s w, Cl s w → o.quietAt P a (Cl s) w v) ∧ K (a.put o.dst v)) :
    if Region.wanted o (yielded ops a.tmps) then quietG P o a Cl K else K b := by
  rw [if_pos hw]; exact h
/-- A call in the head: its contract leaves old blocks alone. -/
theorem head_call {s : Option (Nat × Array Value)} {o : Oper} {a : Act} {W : World} {v : Value} {f : FuncId} {args : Array Value} (h : (execOp a.eval o).run P W = .ok (.enter f args) W) (hM : Mk w t s W)
    (hc : Calls P f args W (fun e w'' => e = .returned v ∧ Below W.heap.size W w'')) : o.quietAt P a (Mk w t s) W v := by
  unfold Oper.quietAt; rw [h]; exact ⟨rfl, hc.mono fun e w'' ⟨he, hb⟩ => ⟨he, hM.grows hb⟩⟩
/-- A load of a whole block that stood before. -/
theorem head_load {o : Oper} {a : Act} {K : Act → Prop} {b : Act} (hw : Region.wanted o (yielded ops a.tmps) = true) (ty : TypeId) (x : Operand) (ho : o.op = .load ty x)
    (g : Nat) (hx : a.eval x = .pointer (some ⟨g, 0, none⟩)) (tg : TypeId) (cs : Array Value) (d : TypeDesc) (hS : Whole w g tg cs)
    (hu : P.underlying ty = some d) (hd : d.isRow = true) (hi : (P.info? ty).map (·.size) = some cs.size) (h2 : K (a.put o.dst (.agg cs))) :
    if Region.wanted o (yielded ops a.tmps) then quietG P o a (Mk w t) K else K b := by
  refine head_want hw ⟨.agg cs, fun s W hC => quietAt_val ?_, h2⟩
  have h := yieldsIf_load_mid (P := P) (ops := ops) (S := fun W => Below w.heap.size w W) (op := o) (a := a) hw ty x ho g 0 hx cs.toList d (fun W hC j v hv => by
    rw [Nat.zero_add, (hS.below hC hS.inside).at_]; simpa using hv) hu hd (by simpa using hi)
  rcases h with ⟨_, h⟩ | ⟨h, _⟩
  · simpa using h W hC.base
  · rw [hw] at h; cases h
/-- A load of the first cells of a block that stood before. -/
theorem head_load_part {o : Oper} {a : Act} {K : Act → Prop} {b : Act} (hw : Region.wanted o (yielded ops a.tmps) = true) (ty : TypeId) (x : Operand) (ho : o.op = .load ty x)
    (g : Nat) (hx : a.eval x = .pointer (some ⟨g, 0, none⟩)) (tg : TypeId) (all cs : Array Value) (d : TypeDesc) (hS : Whole w g tg all) (hp : ∀ (j : Nat) (v : Value), cs[j]? = some v → all[j]? = some v)
    (hu : P.underlying ty = some d) (hd : d.isRow = true) (hi : (P.info? ty).map (·.size) = some cs.size) (h2 : K (a.put o.dst (.agg cs))) :
    if Region.wanted o (yielded ops a.tmps) then quietG P o a (Mk w t) K else K b := by
  refine head_want hw ⟨.agg cs, fun s W hC => quietAt_val ?_, h2⟩
  have h := yieldsIf_load_mid (P := P) (ops := ops) (S := fun W => Below w.heap.size w W) (op := o) (a := a) hw ty x ho g 0 hx cs.toList d (fun W hC j v hv => by
    rw [Nat.zero_add, (hS.below hC hS.inside).at_]; exact hp j v (by simpa using hv)) hu hd (by simpa using hi)
  rcases h with ⟨_, h⟩ | ⟨h, _⟩
  · simpa using h W hC.base
  · rw [hw] at h; cases h
/-- The tail 'a block is made; a row is stored into it': one goal, the block at whatever place. -/
theorem loud_row {Q : Act → Option (Nat × Array Value) → Prop} {o1 o2 : Oper} {a : Act} (y : Operand) (d : Tmp) (z cs : Array Value)
    (h1 : Region.wanted o1 (yielded ops a.tmps) = true) (hd1 : o1.dst = some d) (ha : ∀ W, (execOp a.eval o1).run P W = .ok (.value (.pointer (some ⟨W.heap.size, 0, none⟩))) (W.alloc (.cells z t)))
    (h2 : ∀ p, Region.wanted o2 (yielded ops (a.put (some d) (.pointer (some ⟨p, 0, none⟩))).tmps) = true) (hs : o2.op = .store t (.tmp d) y) (hd2 : o2.dst = none)
    (hx : ∀ p, (a.put (some d) (.pointer (some ⟨p, 0, none⟩))).eval (.tmp d) = .pointer (some ⟨p, 0, none⟩)) (hy : ∀ p, (a.put (some d) (.pointer (some ⟨p, 0, none⟩))).eval y = .agg cs)
    (hi : (P.info? t).map (·.size) = some cs.size) (hold : z.size = cs.size) (hone : cs.all (·.oneCell') = true)
    (k : ∀ p, Q (a.put (some d) (.pointer (some ⟨p, 0, none⟩))) (some (p, cs))) : wpLoud P ops (Mk w t) Q [o1, o2] a none := by
  simp only [wpLoud, h1, if_true]
  intro W hW
  rw [ha W]
  have hW0 : Below w.heap.size w W := hW
  refine ⟨some (W.heap.size, z), ⟨hW0.trans (((Below.refl _ W).alloc (Nat.le_refl _) _).mono hW0.size), hW0.size, Whole.made W t z⟩, ?_⟩
  rw [hd1]
  simp only [h2, if_true]
  intro W2 hW2
  have hrun : (execOp (a.put (some d) (.pointer (some ⟨W.heap.size, 0, none⟩))).eval o2).run P W2 = .ok .skip (W2.setRow W.heap.size cs) := by
    unfold execOp
    simp only [hs, hx, hy, Instr.storeAt, Instr.sureAddr, Sem.run_bind, Sem.run_pure, Result.andThen_ok, run_storeVar_row W2 W.heap.size t t z cs hW2.2.2 hi hold hone]
  rw [hrun]
  refine ⟨some (W.heap.size, cs), ⟨hW2.1.grown (only_row _ _ _) hW2.1.size (fun q hq => by injection hq with hq; subst hq; exact hW0.size), hW2.2.1, hW2.2.2.row⟩, ?_⟩
  rw [hd2]
  exact k _
end
end Go.Spk
namespace Go.Spk
open Go.RowKit Go.ChangeShapes Go.WideShapes
section
variable {H : Type} {enc : TypeId × Value → H} {P : Program} {w : World} {base : Nat} {sp : Nat → Bool} {held : Bool}
theorem open_arr {t e : TypeId} {n : Nat} {k : IntKind} {v : Value} {d : DataW H} {ps : List MemPlace} (ht : P.underlying t = some (.array n e)) (he : P.underlying e = some (.int k)) (hce : P.cellsOf e = 1) (hct : P.cellsOf t = n) (hn : n ≠ 1)
    (h : DataW.Trod enc P w base sp held t v d ps) : ∃ ws : List Int, ws.length = n ∧ v = .agg (rowI k ws) ∧ d = .agg (ws.map fun z => .lit (.int k z)) ∧ ps = [] ∧ ∀ z ∈ ws, (Lit.int k z).wf = true := by
  obtain ⟨fuel, hf⟩ := h
  obtain ⟨xs, m, _, hx, hl, hxl, hi⟩ := DataW.trod_array ht hf
  rw [hct] at hl
  simp only [hce, Nat.mul_one] at hi
  generalize hcs : v.cells.toList = cs at hf hl hi
  have key : ∀ i, i < n → ∃ z, cs[i]? = some (.int k z) ∧ xs[i]? = some (.lit (.int k z), []) ∧ (Lit.int k z).wf = true := by
    intro i hin
    have h1 := hi i hin
    obtain ⟨y, hy⟩ : ∃ y, xs[i]? = some y := ⟨xs[i]'(by omega), List.getElem?_eq_getElem (by omega)⟩
    rw [hy] at h1
    obtain ⟨z, hc, rfl, hw⟩ := DataW.trod_int he h1
    refine ⟨z, ?_, hy, hw⟩
    have := congrArg (·[0]?) hc
    simpa [List.getElem?_take, List.getElem?_drop] using this
  let ws : List Int := cs.map fun v => match v with | .int _ z => z | _ => 0
  have hwl : ws.length = n := by simp [ws, hl]
  have hws : ∀ i, i < n → ∀ z, cs[i]? = some (.int k z) → ws[i]? = some z := fun i _ z hz => by simp [ws, hz]
  have e1 : cs = ws.map (Value.int k) := by
    apply List.ext_getElem?
    intro i
    by_cases hin : i < n
    · obtain ⟨z, hz, _, _⟩ := key i hin
      rw [hz, List.getElem?_map, hws i hin z hz]; rfl
    · rw [List.getElem?_eq_none (by omega), List.getElem?_eq_none (by simp; omega)]
  have e2 : xs = ws.map fun z => ((.lit (.int k z), []) : DataW H × List MemPlace) := by
    apply List.ext_getElem?
    intro i
    by_cases hin : i < n
    · obtain ⟨z, hz, hxz, _⟩ := key i hin
      rw [hxz, List.getElem?_map, hws i hin z hz]; rfl
    · rw [List.getElem?_eq_none (by omega), List.getElem?_eq_none (by simp; omega)]
  simp only [Prod.mk.injEq] at hx
  refine ⟨ws, hwl, ?_, ?_, ?_, ?_⟩
  · have hv : v.cells = rowI k ws := by
      apply Array.toList_inj.1
      rw [hcs, e1]; simp [rowI]
    cases v with
    | agg a => simp only [Value.cells] at hv; rw [hv]
    | _ =>
      exfalso
      simp only [Value.cells] at hcs
      subst hcs
      simp at hl
      omega
  · rw [hx.1, e2]; simp [List.map_map, Function.comp_def]
  · rw [hx.2, e2]; simp [List.flatMap_map]
  · intro z hz
    obtain ⟨i, hin, rfl⟩ := List.getElem_of_mem hz
    obtain ⟨z', hz', _, hw⟩ := key i (by omega)
    have := hws i (by omega) z' hz'
    rw [List.getElem?_eq_getElem hin] at this
    cases this
    exact hw
theorem shut_arr {t e : TypeId} {n : Nat} {k : IntKind} {ws : List Int} (ht : P.underlying t = some (.array n e)) (he : P.underlying e = some (.int k)) (hce : P.cellsOf e = 1) (hct : P.cellsOf t = n) (hl : ws.length = n)
    (hw : ∀ z ∈ ws, (Lit.int k z).wf = true) : DataW.Trod enc P w base sp held t (.agg (rowI k ws)) (.agg (ws.map fun z => .lit (.int k z))) [] := by
  refine ⟨2, ?_⟩
  have hm : (List.range n).mapM (fun i => DataW.trod enc P w base sp held 1 e ((((Value.agg (rowI k ws)).cells.toList).drop (i * P.cellsOf e)).take (P.cellsOf e))) = some (ws.map fun z => ((.lit (.int k z), []) : DataW H × List MemPlace)) := by
    refine mapM_some_of_get _ _ (by simp [hl]) fun i x hx => ?_
    have hin : i < n := by
      have := (List.getElem?_eq_some_iff.1 hx).1
      simpa using this
    obtain rfl : i = x := by simpa [hin] using hx
    have hg : ws[i]? = some (ws[i]'(by omega)) := List.getElem?_eq_getElem (by omega)
    have ht1 : (((Value.agg (rowI k ws)).cells.toList).drop (i * P.cellsOf e)).take (P.cellsOf e) = [.int k (ws[i]'(by omega))] := by
      rw [hce, Nat.mul_one]
      apply List.ext_getElem?
      intro j
      cases j with
      | zero => simp [Value.cells, rowI, List.getElem?_drop, hg]
      | succ j => simp [List.getElem?_take]
    rw [ht1, List.getElem?_map, hg]
    have hwi := hw (ws[i]'(by omega)) (List.getElem_mem _)
    simp [DataW.trod, he, hwi]
  unfold DataW.trod
  rw [ht]
  simp only []
  rw [if_pos (by simp [Value.cells, rowI, hl, hct]), hm]
  simp [List.map_map, Function.comp_def, List.flatMap_map]
theorem cells_of_tab2 {fuel : Nat} {t e q : TypeId} {n m : Nat} {k : IntKind} {cs : List Value} {zs : List (List Int)} {p : List MemPlace}
    (ht : P.underlying t = some (.array n e)) (he : P.underlying e = some (.array m q)) (hq : P.underlying q = some (.int k)) (hcq : P.cellsOf q = 1) (hce : P.cellsOf e = m) (hct : P.cellsOf t = n * m) (hz : zs.length = n)
    (h : DataW.trod enc P w base sp held fuel t cs = some (.agg (zs.map fun r => .agg (r.map fun z => .lit (.int k z))), p)) :
    cs.length = n * m ∧ ∀ i, i < n → (cs.drop (i * m)).take m = (zs.getD i []).map (Value.int k) := by
  obtain ⟨xs, m', _, hx, hl, hxl, hi⟩ := DataW.trod_array ht h
  rw [hct] at hl
  rw [hce] at hi
  simp only [Prod.mk.injEq, DataW.agg.injEq] at hx
  refine ⟨hl, fun i hin => ?_⟩
  obtain ⟨y, hy⟩ : ∃ y, xs[i]? = some y := ⟨xs[i]'(by omega), List.getElem?_eq_getElem (by omega)⟩
  have h1 := hi i hin
  rw [hy] at h1
  have h2 := congrArg (·[i]?) hx.1
  have hzi : zs[i]? = some (zs.getD i []) := by simp [List.getD, show i < zs.length by omega]
  simp only [List.getElem?_map, hy, hzi, Option.map_some, Option.some.injEq] at h2
  have h3 : y = (Lib.tabData k (zs.getD i []), y.2) := by rw [Lib.tabData, h2]
  rw [h3] at h1
  exact Lib.cells_of_tab he hq hcq hce h1
end
/-- What a law's post asks, where the call left old memory alone ('Below'). -/
theorem post_of_below {H : Type} {enc : TypeId × Value → H} {P : Program} {f : Func} {s : ChangeSpec} {apart fresh handsOn again : Bool} {W W' : World} {args : Array Value} {v : Value} {ds gs : List (DataW H)} {before pa pv : List MemPlace}
    (hW : DataW.Whole enc P f.params.toList s.vars apart W args.toList ds gs before)
    (hres : ∀ (b : Nat) (sp : Nat → Bool) (hd : Bool), DataW.TrodAll enc P W' b sp hd f.resultTypes.toList (v.resultList f.resultTypes.size) (s.fn H (ds ++ gs)).results [])
    (hargs : ∀ sp : Nat → Bool, (∀ p ∈ before, sp p.block = true) → DataW.TrodAll enc P W' 0 sp true f.params.toList args.toList (s.fn H (ds ++ gs)).args pa)
    (hvars : ∀ sp : Nat → Bool, (∀ p ∈ before, sp p.block = true) → DataW.TrodVars enc P W' sp s.vars (s.fn H (ds ++ gs)).vars pv)
    (hps : before = pa ++ pv) (hb : Below W.heap.size W W')
    (hok : ∀ (j : Nat) (t : TypeId) (r : Value), f.resultTypes[j]? = some t → (v.resultList f.resultTypes.size)[j]? = some r → Value.okWide P W' .any 0 t r) :
    s.post enc P f apart fresh handsOn again W args v W' := by
  have hold : ∀ p ∈ before, (fun b => decide (b < W.heap.size)) p.block = true := fun p hp => by simpa using hW.lt p hp
  refine ⟨ds, gs, before, [], pa, pv, hW, hres _ _ _, hargs _ hold, hvars _ hold, World.keptBut_mono (fun p hp => ⟨hp, ?_⟩) (hb.frame (· ∈ before)), fun _ => ?_⟩
  · rw [hps, List.mem_append] at hp
    exact Or.inr hp
  · have hlt := hW.lt
    obtain ⟨_, _, _, _, _, hz, hn⟩ := hW
    refine ⟨hok, _, _, ([] ++ pa) ++ pv, ⟨[] ++ pa, pv, trodAll_append (hargs _ (fun _ _ => rfl)) (hres _ _ _), hvars _ (fun _ _ => rfl), rfl, ?_, ?_⟩, ?_⟩
    · intro b off hp
      have hq := (show _ ∈ before by rw [hps]; simpa using hp)
      rw [hb.frozen (p := ⟨b, off, none⟩) (hlt _ hq)]
      exact hz b off hq
    · intro ha
      have := hn ha
      rw [hps] at this
      simpa using this
    · intro p hp _
      rw [hps]
      simpa using hp
/-- An object of a world, its cells set. -/
def layCells (cs : Array Value) : Obj → Obj
  | .cells _ t frozen => .cells cs t frozen
  | o => o
theorem u8_wf {ws : List Int} (h : ∀ z ∈ ws, (Lit.int .u8 z).wf = true) : ∀ b ∈ ws, 0 ≤ b ∧ b ≤ 255 := fun b hb => by
  have := h b hb
  simp [Lit.wf, IntKind.min, IntKind.max, IntKind.signed, IntKind.bits] at this
  omega
end Go.Spk
namespace Go.Spk
open Go.RowKit Go.ChangeShapes Go.WideShapes
section
variable {H : Type} {enc : TypeId × Value → H} {P : Program} {w : World}
theorem open_sl {t e : TypeId} {k : IntKind} {v : Value} {d : DataW H} {ps : List MemPlace} (ht : P.underlying t = some (.slice e)) (he : P.underlying e = some (.int k)) (hc : P.cellsOf e = 1)
    (hv : ∃ A l c, v = .slice A l c) (h : DataW.Trod enc P w 0 (fun _ => true) true t v d ps) :
    ∃ (A : Option Addr) (zs : List Int) (cap : Nat), v = .slice A zs.length cap ∧ zs.length ≤ maxLen ∧ Rd w A (zs.map (Value.int k)) ∧ (∀ z ∈ zs, (Lit.int k z).wf = true) ∧
      ∀ (W' : World) (sp : Nat → Bool), (∀ p ∈ ps, sp p.block = true) → Below w.heap.size w W' → DataW.Trod enc P W' 0 sp true t v d ps := by
  obtain ⟨A, l, c, rfl⟩ := hv
  obtain ⟨fuel, hf⟩ := h
  rcases open_ints ht he hc hf with ⟨hcs, hx⟩ | ⟨a, len, cap, zs, hcs, hb, hl, hm, hz, hx, hcell, hwz⟩
  · simp [Value.cells] at hcs
    obtain ⟨rfl, rfl, rfl⟩ := hcs
    simp only [Prod.mk.injEq] at hx
    obtain ⟨rfl, rfl⟩ := hx
    refine ⟨none, [], 0, rfl, by simp, Rd.empty w none, by simp, fun W' sp _ _ => ⟨1, ?_⟩⟩
    simp [DataW.trod, Value.cells, ht]
  · simp [Value.cells] at hcs
    obtain ⟨rfl, rfl, rfl⟩ := hcs
    simp only [Prod.mk.injEq] at hx
    obtain ⟨rfl, rfl⟩ := hx
    simp only [if_true] at hz
    have htl : (zs.take l).length = l := by rw [List.length_take]; omega
    refine ⟨some a, zs.take l, c, by rw [htl], by rw [htl]; omega, ?_, fun z hzm => hwz z (List.mem_of_mem_take hzm), ?_⟩
    · intro hne
      have h0 : 0 < zs.length := by
        rw [hz]
        have : 0 < (zs.take l).length := by
          cases hzl : zs.take l with
          | nil => simp [hzl] at hne
          | cons x xs => simp
        omega
      refine ⟨a, rfl, ?_, ?_⟩
      · have := block_lt_of_cell (hcell 0 h0)
        rwa [add_block] at this
      · intro j u hu
        have hj : j < l := by
          have := (List.getElem?_eq_some_iff.1 hu).1
          rw [List.length_map, htl] at this; exact this
        rw [hcell j (by omega), ← hu]
        simp [List.getD, hj, show j < zs.length by omega]
    · intro W' sp hsp hb'
      refine ⟨2, shut_ints 0 ht he hc (Nat.zero_le _) hl hm ?_ ?_ hwz⟩
      · rw [hz]
        by_cases h0 : c = 0
        · have : l = 0 := by omega
          simp [h0, this]
        · have hs : sp a.block = true := by
            have hmem : MemPlace.cell a.block a.off ∈ MemPlace.row a zs.length := by
              simp [MemPlace.row]
              omega
            exact hsp _ hmem
          rw [hs]; simp
      · intro i hi
        rw [← hcell i hi]
        exact hb'.cell (by
          have := block_lt_of_cell (hcell i hi)
          exact this)
end
end Go.Spk
