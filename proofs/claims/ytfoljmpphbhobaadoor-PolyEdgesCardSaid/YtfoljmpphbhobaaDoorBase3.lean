/- Bytes of a string and back; the row that a conversion of a string lays. -/
import Derived.Test.YtfoljmpphbhobaaDoorBase2
import Derived.Laws.BytesArg
import Derived.Laws.IdiomStrings
namespace Go.Spk
open Go.RowKit
/-- A string's bytes as numbers. -/
def bI (s : ByteArray) : List Int := s.data.toList.map fun b => (b.toNat : Int)
def U8s (ks : List Int) : Prop := ∀ i, 0 ≤ ix ks i ∧ ix ks i ≤ 255
theorem bI_length (s : ByteArray) : (bI s).length = s.size := by show _ = s.data.size; simp [bI]
theorem U8s_of_mem {ks : List Int} (h : ∀ b ∈ ks, 0 ≤ b ∧ b ≤ 255) : U8s ks := ix_bytes h
theorem U8s_bI (s : ByteArray) : U8s (bI s) := ix_bytes fun b hb => by
  simp only [bI, List.mem_map] at hb
  obtain ⟨c, _, rfl⟩ := hb
  have := c.toNat_lt
  omega
theorem str_bI (s : ByteArray) : strOfNums (bI s) = s := by
  have : (bI s).map (fun n => UInt8.ofNat n.toNat) = s.data.toList := by
    simp only [bI, List.map_map]
    conv => rhs; rw [← List.map_id s.data.toList]
    apply List.map_congr_left
    intro b _
    simp
  unfold strOfNums
  rw [this]
theorem ix_bI (s : ByteArray) (i : Nat) (h : i < s.size) : ix (bI s) i = ((s[i]'h).toNat : Int) := by
  have h' : i < s.data.size := h
  have e : s.data[i]? = some s.data[i] := Array.getElem?_eq_getElem h'
  simp [ix, bI, List.getD, e]
  rfl
theorem bI_str {xs : List Int} (h : ∀ b ∈ xs, 0 ≤ b ∧ b ≤ 255) : bI (strOfNums xs) = xs := by
  unfold bI
  rw [strOfNums_data, List.map_map]
  conv => rhs; rw [← List.map_id xs]
  apply List.map_congr_left
  intro b hb
  have := h b hb
  simp
  omega
theorem mem_of_U8s {ks : List Int} (h : U8s ks) : ∀ b ∈ ks, 0 ≤ b ∧ b ≤ 255 := by
  intro b hb
  obtain ⟨i, hi, rfl⟩ := List.mem_iff_getElem.1 hb
  have := h i
  simpa [ix, List.getD, hi] using this

/-- Block g is a row of bytes that a conversion of a string laid (it bears a mark behind its end, at m). -/
def Bys (w : World) (g : Nat) (t : TypeId) (m : Nat) (ws : List Int) : Prop := w.heap[g]? = some (.cells (rowI .u8 ws) t (m, m + 1)) ∧ ws.length ≤ m
section
variable {w w' : World} {g : Nat} {t : TypeId} {m : Nat} {ws : List Int}
theorem Bys.inside (h : Bys w g t m ws) : g < w.heap.size := by
  refine Nat.lt_of_not_le fun hge => ?_
  have := Array.getElem?_eq_none hge
  have h1 := h.1
  simp [this] at h1
theorem Bys.cell (h : Bys w g t m ws) (i : Nat) (hi : i < ws.length) : w.cell? ⟨g, i, none⟩ = some (.int .u8 (ix ws i)) := by
  rw [cell_of_row w g i _ t _ h.1, rowI_get _ ws i hi]
theorem Bys.frozen (h : Bys w g t m ws) (i : Nat) (hi : i < ws.length) : w.frozen? ⟨g, i, none⟩ = false := by
  have h2 := h.2
  simp [World.frozen?, h.1]
  omega
theorem Bys.set (h : Bys w g t m ws) (i : Nat) (v : Int) : Bys (w.setCell ⟨g, i, none⟩ (.int .u8 v)) g t m (ws.set i v) := by
  refine ⟨?_, by rw [List.length_set]; exact h.2⟩
  rw [← rowI_set]
  simp [World.setCell, Array.getElem?_modify, h.1]
theorem Bys.other (h : Bys w g t m ws) {r : Option Nat} (hb : w.grownBy w' r) (hg : some g ≠ r) : Bys w' g t m ws := ⟨(hb.block g h.inside hg).trans h.1, h.2⟩
theorem Bys.drew (h : Bys w g t m ws) : Bys w.drew g t m ws := h
theorem Bys.drewN (h : Bys w g t m ws) (n : Nat) : Bys (w.drewN n) g t m ws := h
theorem Bys.alloc (h : Bys w g t m ws) (o : Obj) : Bys (w.alloc o) g t m ws := ⟨(Below.heap_alloc w o g h.inside).trans h.1, h.2⟩
theorem Bys.below {B : Nat} (h : Bys w g t m ws) (hb : Below B w w') (hg : g < B) : Bys w' g t m ws := ⟨(hb.block g hg).trans h.1, h.2⟩
end
theorem bytesRow_eq (s : ByteArray) (c : Nat) : bytesRow s c = rowI .u8 (bI s ++ List.replicate (c - s.size) 0) := by
  unfold bytesRow rowI bI
  apply Array.ext'
  simp [Function.comp_def]
/-- What a conversion of a string to bytes lays. -/
theorem Bys.made {w : World} {g : Nat} (hg : w.heap.size = g) (s : ByteArray) (c : Nat) (e : TypeId) :
    Bys (w.alloc (.cells (bytesRow s c) e ((bytesRow s c).size, (bytesRow s c).size + 1))).drew g e (bytesRow s c).size (bI s ++ List.replicate (c - s.size) 0) := by
  subst hg
  refine ⟨?_, ?_⟩
  · rw [bytesRow_eq]; exact heap_alloc_new w _
  · rw [bytesRow_eq, rowI_size]; exact Nat.le_refl _
theorem ix_append_left (a b : List Int) (i : Nat) (h : i < a.length) : ix (a ++ b) i = ix a i := by
  simp [ix, List.getD, List.getElem?_append_left h]
theorem ix_set (l : List Int) (i j : Nat) (v : Int) (h : i < l.length) : ix (l.set i v) j = if j = i then v else ix l j := by
  unfold ix List.getD
  rw [List.getElem?_set]
  by_cases e : i = j
  · subst e; simp [h]
  · simp [e, Ne.symm e]
theorem ix_ext {a b : List Int} (hl : a.length = b.length) (h : ∀ i, i < a.length → ix a i = ix b i) : a = b := by
  apply List.ext_getElem hl
  intro i h1 h2
  have := h i h1
  simpa [ix, List.getD, h1, h2] using this
end Go.Spk
