/- A slice of integers that the call itself makes and appends to. -/
import Derived.Test.YtfoljmpphbhobaaDoorBase3
import Derived.Deep.AppendLies
namespace Go.Spk
open Go.RowKit
/-- The slice at block g, of length n and capacity cap, is the call's own (blocks from B on), holds the numbers xs of kind k. -/
def Own (w : World) (B : Nat) (e : TypeId) (k : IntKind) (g n cap : Nat) (xs : List Int) : Prop :=
  w.ownsRow B e 1 (.slice (some ⟨g, 0, none⟩) n cap) n (xs.map (Value.int k))
section
variable {w w' : World} {B : Nat} {e : TypeId} {k : IntKind} {g n cap : Nat} {xs : List Int}
theorem Own.len (h : Own w B e k g n cap xs) : xs.length = n := by have := h.1; simpa using this
theorem Own.lt (h : Own w B e k g n cap xs) : B ≤ g ∧ g < w.heap.size := World.ownsRow.lt h g (by simp [Value.ownBlock])
theorem Own.room (h : Own w B e k g n cap xs) : n ≤ cap ∧ cap ≤ maxLen := by
  rcases h.2 with ⟨h', _⟩ | ⟨g', cap', cur, h', _, _, h1, h2, _⟩
  · simp at h'
  · simp only [Value.slice.injEq, Option.some.injEq, Addr.mk.injEq, and_true, true_and] at h'
    obtain ⟨rfl, rfl⟩ := h'
    exact ⟨h1, h2⟩
theorem Own.cell (h : Own w B e k g n cap xs) (i : Nat) (hi : i < n) : w.cell? ⟨g, i, none⟩ = some (.int k (ix xs i)) := by
  have hl := h.len
  have h1 := World.ownsRow.cellAt (w := w) h i (by omega)
  rw [h1]
  simp [ix, List.getD, hl, hi]
theorem Own.frozen (h : Own w B e k g n cap xs) (i : Nat) : w.frozen? ⟨g, i, none⟩ = false := World.ownsRow.frozenAt (w := w) h i
theorem Own.set (h : Own w B e k g n cap xs) (i : Nat) (v : Int) : Own (w.setCell ⟨g, i, none⟩ (.int k v)) B e k g n cap (xs.set i v) := by
  have := (World.ownsRow.stored (w := w) h i (.int k v)).1
  rwa [show (xs.map (Value.int k)).set i (.int k v) = (xs.set i v).map (Value.int k) by rw [List.map_set]] at this
theorem Own.drew (h : Own w B e k g n cap xs) : Own w.drew B e k g n cap xs := h
theorem Own.drewN (h : Own w B e k g n cap xs) (m : Nat) : Own (w.drewN m) B e k g n cap xs := h
theorem Own.only (h : Own w B e k g n cap xs) {r : Option Nat} (hb : w.grownBy w' r) (hg : some g ≠ r) : Own w' B e k g n cap xs :=
  World.ownsRow.kept (w := w) h hb (.inr (by simpa [Value.ownBlock] using hg))
theorem Own.alloc (h : Own w B e k g n cap xs) (o : Obj) : Own (w.alloc o) B e k g n cap xs := h.only (World.grownBy_alloc w o none) (by simp)
theorem Own.below {B' : Nat} (h : Own w B e k g n cap xs) (hb : Below B' w w') (hg : g < B') : Own w' B e k g n cap xs := by
  obtain ⟨h0, h1⟩ := h
  refine ⟨h0, ?_⟩
  rcases h1 with h1 | ⟨g', cap', cur, h', r1, r2, r3⟩
  · exact .inl h1
  · refine .inr ⟨g', cap', cur, h', r1, ?_, r3⟩
    simp only [Value.slice.injEq, Option.some.injEq, Addr.mk.injEq, and_true, true_and] at h'
    obtain ⟨rfl, _⟩ := h'
    rw [hb.block g hg]; exact r2
theorem Own.less {B' : Nat} (h : Own w B e k g n cap xs) (hb : B' ≤ B) : Own w B' e k g n cap xs := by
  obtain ⟨h0, h1⟩ := h
  refine ⟨h0, ?_⟩
  rcases h1 with h1 | ⟨g', cap', cur, h', r1, r2⟩
  · exact .inl h1
  · exact .inr ⟨g', cap', cur, h', by omega, r2⟩
theorem Own.made {cs : Array Value} {m : Nat} (hg : w.heap.size = g) (hB : B ≤ g) (hm : m ≤ maxLen) (hc : cs = rowI k xs) (hn : xs.length = m) : Own (w.alloc (.cells cs e)) B e k g m m xs := by
  subst hg hc
  have := World.ownsRow_lit (base := B) (e := e) (size := 1) w (rowI k xs) m hB hm (by rw [rowI_size]; omega)
  simpa [Own, rowI] using this
theorem Own.rd (h : Own w B e k g n cap xs) : Rd w (some ⟨g, 0, none⟩) (xs.map (Value.int k)) := Rd.of_own (w := w) h (fun hne => by
  have := h.len
  cases xs with
  | nil => exact absurd rfl hne
  | cons a l => simp at this; omega)
end

section
variable {P : Program} {w : World}
theorem info_of {e : TypeId} {k : IntKind} {bytes : Nat} (h : (P.info? e).map (fun i => (i.zero, i.size, i.bytes)) = some (some (.int k 0), 1, bytes)) :
    ∃ i, P.info? e = some i ∧ i.zero = some (.int k 0) ∧ i.size = 1 ∧ i.bytes = bytes := by
  cases hq : P.info? e with
  | none => simp [hq] at h
  | some i => simp [hq] at h; exact ⟨i, rfl, h.1, h.2.1, h.2.2⟩
theorem news_ints {ad : Addr} {k : IntKind} {news : List Int} (h : ∀ j, j < news.length → w.cell? (ad.add j) = some (.int k (ix news j))) :
    ∀ j u, (news.map (Value.int k))[j]? = some u → w.cell? (ad.add j) = some u := by
  intro j u hu
  have hj : j < news.length := by have := (List.getElem?_eq_some_iff.1 hu).1; simpa using this
  rw [h j hj]
  simp [hj] at hu
  rw [← hu]
  simp [ix, List.getD, hj]
/-- append of numbers to an own slice: at the list of a plain region's operations. -/
theorem wpList_push {ops : Array Oper} {rest : List Oper} {o : Oper} {a : Act} {Q : Exit → Act → World → Prop} (hgd : o.guard = none) (s x : Operand) (t : TypeId)
    (ho : o.op = .call { callee := .builtin .append, args := #[s, x], argTypes := #[t, t] })
    {B : Nat} {e : TypeId} {k : IntKind} {g n cap : Nat} {xs : List Int} (bytes : Nat) (ht : P.underlying t = some (.slice e)) (hi : (P.info? e).map (fun i => (i.zero, i.size, i.bytes)) = some (some (.int k 0), 1, bytes))
    (hs : a.eval s = .slice (some ⟨g, 0, none⟩) n cap) (hown : Own w B e k g n cap xs)
    (ad : Addr) (m c : Nat) (news : List Int) (hx : a.eval x = .slice (some ad) m c) (hl : news.length = m) (hnews : ∀ j, j < news.length → w.cell? (ad.add j) = some (.int k (ix news j)))
    (hm : 0 < m) (h63 : n + m ≤ 1000000000000) (hby : bytes ≤ 8)
    (h : ∀ g' cap' w', Own w' B e k g' (n + m) cap' (xs ++ news) → w.grownBy w' (some g) → (g' = g ∨ w.heap.size ≤ g') → wpList P ops Q rest (a.put o.dst (.slice (some ⟨g', 0, none⟩) (n + m) cap')) w') : wpList P ops Q (o :: rest) a w := by
  obtain ⟨i, hi0, hi1, hi2, hi3⟩ := info_of hi
  refine wpList_append_lies w hgd s x t ho B e i (.int k 0) 1 bytes ht hi0 hi1 hi2 hi3 rfl (by omega) _ n _ hs hown ad m c (news.map (Value.int k)) hx (by simp [hl]) (news_ints hnews)
    (fun u hu => by obtain ⟨q, _, rfl⟩ := List.mem_map.1 hu; rfl) hm (by unfold maxLen; omega) (Nat.le_trans (Nat.mul_le_mul h63 hby) (by omega)) (by have := hown.lt; omega) w.heap.size rfl ?_
  intro g' cap' w' h1 h2 h3 _
  refine h g' cap' w' ?_ (by simpa [Value.ownBlock] using h2) ?_
  · unfold Own; rw [List.map_append]; exact h1
  · rcases h3 with h3 | h3
    · exact .inl (by simpa [Value.ownBlock] using h3.symm)
    · exact .inr (by omega)
/-- The same at a step of a region that draws its order. -/
theorem step_push {ops : Array Oper} {o : Oper} {a : Act} {K : Act → World → Prop} {Q : Exit → Act → World → Prop} {E : Prop} (hgd : o.guard = none) (s x : Operand) (t : TypeId)
    (ho : o.op = .call { callee := .builtin .append, args := #[s, x], argTypes := #[t, t] })
    {B : Nat} {e : TypeId} {k : IntKind} {g n cap : Nat} {xs : List Int} (bytes : Nat) (ht : P.underlying t = some (.slice e)) (hi : (P.info? e).map (fun i => (i.zero, i.size, i.bytes)) = some (some (.int k 0), 1, bytes))
    (hs : a.eval s = .slice (some ⟨g, 0, none⟩) n cap) (hown : Own w B e k g n cap xs)
    (ad : Addr) (m c : Nat) (news : List Int) (hx : a.eval x = .slice (some ad) m c) (hl : news.length = m) (hnews : ∀ j, j < news.length → w.cell? (ad.add j) = some (.int k (ix news j)))
    (hm : 0 < m) (h63 : n + m ≤ 1000000000000) (hby : bytes ≤ 8)
    (h : ∀ g' cap' w', Own w' B e k g' (n + m) cap' (xs ++ news) → w.grownBy w' (some g) → (g' = g ∨ w.heap.size ≤ g') → K (a.put o.dst (.slice (some ⟨g', 0, none⟩) (n + m) cap')) w') :
    if Region.wanted o (yielded ops a.tmps) = true then Oper.wp P o a w K Q else E := by
  obtain ⟨i, hi0, hi1, hi2, hi3⟩ := info_of hi
  refine step_append_lies w hgd s x t ho B e i (.int k 0) 1 bytes ht hi0 hi1 hi2 hi3 rfl (by omega) _ n _ hs hown ad m c (news.map (Value.int k)) hx (by simp [hl]) (news_ints hnews)
    (fun u hu => by obtain ⟨q, _, rfl⟩ := List.mem_map.1 hu; rfl) hm (by unfold maxLen; omega) (Nat.le_trans (Nat.mul_le_mul h63 hby) (by omega)) (by have := hown.lt; omega) w.heap.size rfl ?_
  intro g' cap' w' h1 h2 h3 _
  refine h g' cap' w' ?_ (by simpa [Value.ownBlock] using h2) ?_
  · unfold Own; rw [List.map_append]; exact h1
  · rcases h3 with h3 | h3
    · exact .inl (by simpa [Value.ownBlock] using h3.symm)
    · exact .inr (by omega)
theorem cell_one {k : IntKind} {g : Nat} {v : Int} (h : w.cell? ⟨g, 0, none⟩ = some (.int k v)) : ∀ j, j < [v].length → w.cell? ((⟨g, 0, none⟩ : Addr).add j) = some (.int k (ix [v] j)) := by
  intro j hj
  obtain rfl : j = 0 := by simp at hj; exact hj
  exact h
end
end Go.Spk
