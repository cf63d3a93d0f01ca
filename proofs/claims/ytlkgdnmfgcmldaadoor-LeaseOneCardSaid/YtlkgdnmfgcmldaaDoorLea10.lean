/- Slices of leases: which leases a slice of the call's own holds; append of one; a row of leases that the library sorts. Stated over any program. -/
import Derived.Test.YtlkgdnmfgcmldaaDoorLea6
import Derived.Maps.AppendAt
import Derived.Shelf.GgSortFunc.InsertionK
import Derived.Sort.Grow
namespace Go.Proofs.YtlkgdnmfgcmldaaDoor
open Go.RowKit Go.Spk Go.Sort
set_option linter.unusedVariables false
instance : Inhabited Lse := ⟨lse0⟩
def lseC (x : Lse) : List Value := [.string x.t, .string x.a, .int .i64 x.o, .int .i64 x.e, .int .i64 x.l]
theorem lseC_length (x : Lse) : (lseC x).length = 5 := rfl
theorem lseC_one (x : Lse) : ∀ v ∈ lseC x, v.oneCell' = true := by
  intro v hv
  simp only [lseC, List.mem_cons, List.not_mem_nil, or_false] at hv
  rcases hv with rfl | rfl | rfl | rfl | rfl <;> rfl
theorem lseV_agg (x : Lse) : lseV x = .agg (lseC x).toArray := rfl
def cellsL (L : List Lse) : List Value := L.flatMap lseC
theorem cellsL_length (L : List Lse) : (cellsL L).length = L.length * 5 := by
  unfold cellsL
  induction L with
  | nil => rfl
  | cons x L ih => rw [List.flatMap_cons, List.length_append, ih, lseC_length, List.length_cons]; omega
theorem cellsL_append (L M : List Lse) : cellsL (L ++ M) = cellsL L ++ cellsL M := List.flatMap_append
theorem cellsL_one (L : List Lse) : ∀ v ∈ cellsL L, v.oneCell' = true := by
  intro v hv
  obtain ⟨x, _, h⟩ := List.mem_flatMap.1 hv
  exact lseC_one x v h
theorem cellsL_at : ∀ (L : List Lse) (k j : Nat) (x : Lse), L[k]? = some x → j < 5 → (cellsL L)[k * 5 + j]? = (lseC x)[j]?
  | [], k, j, x, h, _ => by simp at h
  | y :: L, 0, j, x, h, hj => by
    have e : y = x := by simpa using h
    subst e
    show (lseC y ++ cellsL L)[0 * 5 + j]? = _
    rw [List.getElem?_append_left (by rw [lseC_length]; omega)]
    congr 1
    omega
  | y :: L, k + 1, j, x, h, hj => by
    have e : L[k]? = some x := by simpa using h
    show (lseC y ++ cellsL L)[(k + 1) * 5 + j]? = _
    rw [List.getElem?_append_right (by rw [lseC_length]; omega), ← cellsL_at L k j x e hj, lseC_length]
    congr 1
    omega
/-- The slice v, of the call's own (blocks from B on), holds the leases L. -/
def Lows (w : World) (B : Nat) (T : TypeId) (v : Value) (L : List Lse) : Prop := w.ownsRow B T 5 v L.length (cellsL L)
section
variable {w w' : World} {B : Nat} {T : TypeId} {v : Value} {L : List Lse}
theorem Lows.nil (w : World) (B : Nat) (T : TypeId) : Lows w B T (.slice none 0 0) [] := ⟨rfl, .inl ⟨rfl, rfl⟩⟩
theorem Lows.kept (h : Lows w B T v L) {row : Option Nat} (hg : w.grownBy w' row) (hne : v.ownBlock = none ∨ v.ownBlock ≠ row) : Lows w' B T v L := World.ownsRow.kept (w := w) h hg hne
theorem Lows.lt (h : Lows w B T v L) (g : Nat) (hg : v.ownBlock = some g) : B ≤ g ∧ g < w.heap.size := World.ownsRow.lt h g hg
theorem Lows.shape (h : Lows w B T v L) : (v = .slice none 0 0 ∧ L = []) ∨ ∃ g cap cur, v = .slice (some ⟨g, 0, none⟩) L.length cap ∧ B ≤ g ∧ w.heap[g]? = some (.cells cur T (0, 0)) ∧ L.length ≤ cap ∧ cap ≤ maxLen ∧ cur.size = cap * 5 ∧ cur.toList.take (L.length * 5) = cellsL L := by
  rcases h.2 with ⟨h1, h2⟩ | ⟨g, cap, cur, h1, h2⟩
  · exact .inl ⟨h1, List.eq_nil_of_length_eq_zero h2⟩
  · exact .inr ⟨g, cap, cur, h1, h2⟩
theorem Lows.below {C : Nat} (h : Lows w B T v L) (hb : Below C w w') (hlt : ∀ g, v.ownBlock = some g → g < C) : Lows w' B T v L := by
  refine ⟨h.1, ?_⟩
  rcases h.2 with h1 | ⟨g, cap, cur, h1, h2, h3, h4⟩
  · exact .inl h1
  · refine .inr ⟨g, cap, cur, h1, h2, ?_, h4⟩
    rw [hb.block g (hlt g (by rw [h1]; rfl))]
    exact h3
theorem Lows.less {C : Nat} (h : Lows w B T v L) (hC : C ≤ B) : Lows w C T v L := by
  refine ⟨h.1, ?_⟩
  rcases h.2 with h1 | ⟨g, cap, cur, h1, h2, h3⟩
  · exact .inl h1
  · exact .inr ⟨g, cap, cur, h1, by omega, h3⟩
/-- Where the leases of a slice lie. -/
theorem Lows.at_ (h : Lows w B T v L) {k : Nat} {x : Lse} (hk : L[k]? = some x) : ∃ g cap, v = .slice (some ⟨g, 0, none⟩) L.length cap ∧ B ≤ g ∧ g < w.heap.size ∧ ∀ j u, (lseC x)[j]? = some u → w.cell? ⟨g, k * 5 + j, none⟩ = some u ∧ w.frozen? ⟨g, k * 5 + j, none⟩ = false := by
  rcases h.shape with ⟨_, rfl⟩ | ⟨g, cap, cur, h1, h2, h3, h4, h5, h6, h7⟩
  · simp at hk
  · refine ⟨g, cap, h1, h2, (Array.getElem?_eq_some_iff.1 h3).1, fun j u hu => ?_⟩
    have hj : j < 5 := by
      have := (List.getElem?_eq_some_iff.1 hu).1
      rwa [lseC_length] at this
    have hk' : k < L.length := (List.getElem?_eq_some_iff.1 hk).1
    have e := cellsL_at L k j x hk hj
    rw [← h7, List.getElem?_take, if_pos (by omega), Array.getElem?_toList, hu] at e
    refine ⟨?_, by simp [World.frozen?, h3]⟩
    simp [World.cell?, h3, e]
end
section
variable {P : Program} {w : World}
theorem news_lse {g : Nat} {T : TypeId} {x : Lse} (h : Whole w g T (lseC x).toArray) : ∀ j u, (lseC x)[j]? = some u → w.cell? ((⟨g, 0, none⟩ : Addr).add j) = some u := by
  intro j u hu
  rw [Addr.add_mid, Nat.zero_add, h.at_]
  simpa using hu
/-- 'out = append(out, x)', at the list of a plain region. -/
theorem wpList_pushL {ops : Array Oper} {rest : List Oper} {o : Oper} {a : Act} {Q : Exit → Act → World → Prop} (hgd : o.guard = none) (s y : Operand) (t : TypeId)
    (ho : o.op = .call { callee := .builtin .append, args := #[s, y], argTypes := #[t, t] })
    (B : Nat) (T : TypeId) (z : Value) (bytes : Nat) (ht : P.underlying t = some (.slice T)) (hi : (P.info? T).map (fun i => (i.zero, i.size, i.bytes)) = some (some z, 5, bytes)) (hz : z.cells.size = 5) (hby : bytes ≤ 64)
    (v : Value) (L : List Lse) (x : Lse) (hs : a.eval s = v) (hown : Lows w B T v L) (g c : Nat) (hx : a.eval y = .slice (some ⟨g, 0, none⟩) 1 c) (hg : Whole w g T (lseC x).toArray)
    (hL : L.length ≤ 1000000) (hbase : B ≤ w.heap.size)
    (h : ∀ v' w', Lows w' B T v' (L ++ [x]) → w.grownBy w' v.ownBlock → (v'.ownBlock = v.ownBlock ∨ v'.ownBlock = some w.heap.size) → wpList P ops Q rest (a.put o.dst v') w') : wpList P ops Q (o :: rest) a w := by
  obtain ⟨i, hi0, hi1, hi2, hi3⟩ : ∃ i, P.info? T = some i ∧ i.zero = some z ∧ i.size = 5 ∧ i.bytes = bytes := by
    cases hq : P.info? T with
    | none => simp [hq] at hi
    | some i => simp [hq] at hi; exact ⟨i, rfl, hi.1, hi.2.1, hi.2.2⟩
  refine wpList_append_own_at w hgd s y t ho B T i z 5 bytes ht hi0 hi1 hi2 hi3 hz (by omega) v L.length (cellsL L) hs hown ⟨g, 0, none⟩ 1 c (lseC x) hx rfl (news_lse hg) (lseC_one x)
    (by unfold maxLen; omega) (Nat.le_trans (Nat.mul_le_mul (show L.length + 1 ≤ 1000001 by omega) hby) (by omega)) hbase ?_
  intro v' w' h1 h2 _ h4
  refine h v' w' ?_ h2 h4
  unfold Lows
  rw [List.length_append, cellsL_append]
  simpa [cellsL] using h1
end
/-! ### The sort -/
section
variable {w : World} {g cap n : Nat} {T : TypeId} {os : Array Obj} {cur : Array Value} {L : List Lse} {B : Nat}
theorem flat_lse (L : List Lse) (t : Nat) (ht : t < L.length * 5) : (flatK lseC 5 L.toArray)[t]? = (cellsL L)[t]? := by
  have hk : t / 5 < L.length := by omega
  have hx : L[t / 5]? = some L[t / 5] := List.getElem?_eq_getElem hk
  have e := cellsL_at L (t / 5) (t % 5) _ hx (Nat.mod_lt _ (by omega))
  rw [show t / 5 * 5 + t % 5 = t by omega] at e
  rw [e, Array.getElem?_eq_getElem (by rw [size_flatK]; simpa using ht)]
  have h5 : t % 5 < (lseC L[t / 5]).length := by rw [lseC_length]; exact Nat.mod_lt _ (by omega)
  rw [List.getElem?_eq_getElem h5]
  simp only [flatK, Array.getElem_map, Array.getElem_range]
  rw [getElem!_pos L.toArray (t / 5) (by simpa using hk)]
  exact congrArg some (getElem!_pos (lseC L[t / 5]) (t % 5) h5)
theorem holds_lse (hb : w.heap[g]? = some (.cells cur T (0, 0))) (ht : cur.toList.take (L.length * 5) = cellsL L) : HoldsK lseC 5 w g 0 L.toArray := by
  intro j hj
  have hj' : j < L.length * 5 := by simpa using hj
  refine ⟨?_, by simp [World.frozen?, hb]⟩
  have h1 : (cur.toList.take (L.length * 5))[j]? = (cellsL L)[j]? := by rw [ht]
  rw [List.getElem?_take_of_lt hj', ← flat_lse L j hj', Array.getElem?_toList] at h1
  simp only [World.cell?, hb, Nat.zero_add]
  simp only [Option.isSome_none, Bool.false_eq_true, if_false]
  rw [h1, getElem!_pos _ j hj, Array.getElem?_eq_getElem hj]
  rfl
theorem heap_sortL (d : Array Lse) (hb : w.heap[g]? = some (.cells cur T (0, 0))) : (sortWorldK lseC 5 w g 0 n d os).heap[g]? = some (.cells (putCells id 0 (flatK lseC 5 d) cur) T (0, 0)) := by
  have hg : g < w.heap.size := (Array.getElem?_eq_some_iff.1 hb).1
  unfold sortWorldK putRowK
  rw [heap_grow_old _ _ (by simpa using hg)]
  simp [putRow, mapBlock, Sort.ahead, Array.getElem?_modify, hb, onCells]
theorem grownBy_sortL (d : Array Lse) : w.grownBy (sortWorldK lseC 5 w g 0 n d os) (some g) := by
  unfold sortWorldK putRowK
  refine ⟨rfl, rfl, rfl, by simp, fun k hk hne => ?_⟩
  rw [heap_grow_old _ _ (by simpa using hk)]
  have : g ≠ k := fun e => hne (by rw [e])
  simp [putRow, mapBlock, Sort.ahead, Array.getElem?_modify, this]
theorem take_putL (M : List Lse) (h : M.length * 5 ≤ cur.size) : (putCells id 0 (flatK lseC 5 M.toArray) cur).toList.take (M.length * 5) = cellsL M := by
  apply List.ext_getElem?
  intro j
  by_cases hj : j < M.length * 5
  · rw [List.getElem?_take_of_lt hj, Array.getElem?_toList, ← flat_lse M j hj]
    have hf : j < (flatK lseC 5 M.toArray).size := by rw [size_flatK]; simpa using hj
    have h2 : j < M.length * 5 := hj
    simp only [putCells, Array.getElem?_mapIdx, Array.getElem?_eq_getElem (show j < cur.size by omega), Option.map_some]
    rw [if_pos ⟨Nat.zero_le _, by omega⟩, Nat.sub_zero, getElem!_pos _ j hf, Array.getElem?_eq_getElem hf]
    rfl
  · rw [List.getElem?_take_eq_none (by omega), List.getElem?_eq_none (by rw [cellsL_length]; omega)]
/-- Behind the sort the same slice holds the leases in their new order. -/
theorem Lows.sorted {M : List Lse} (hl : M.length = L.length) (hB : B ≤ g) (hb : w.heap[g]? = some (.cells cur T (0, 0))) (h1 : L.length ≤ cap) (h2 : cap ≤ maxLen) (h3 : cur.size = cap * 5) :
    Lows (sortWorldK lseC 5 w g 0 n M.toArray os) B T (.slice (some ⟨g, 0, none⟩) L.length cap) M := by
  unfold Lows
  rw [hl]
  refine ⟨by rw [cellsL_length, hl], .inr ⟨g, cap, _, rfl, hB, heap_sortL _ hb, h1, h2, by simp [putCells, h3], ?_⟩⟩
  rw [← hl]
  exact take_putL M (by omega)
end
end Go.Proofs.YtlkgdnmfgcmldaaDoor
