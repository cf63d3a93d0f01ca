/- The table of leases as an ascending list: order, place of a new lease, what is struck and what is turned; in plain Lean. -/
import Derived.Test.YtlkgdnmfgcmldaaDoorLea1
namespace Go.Proofs.YtlkgdnmfgcmldaaDoor
set_option linter.unusedVariables false
/-- The order of names. -/
def ltN (t a t' a' : ByteArray) : Bool := decide (t.data.toList < t'.data.toList) || (decide (t = t') && decide (a.data.toList < a'.data.toList))
def ltL (x y : Lse) : Bool := ltN x.t x.a y.t y.a
theorem ltN_irrefl (t a : ByteArray) : ltN t a t a = false := by
  simp [ltN, List.lt_irrefl]
theorem ltN_trans {t a t' a' t'' a'' : ByteArray} (h : ltN t a t' a' = true) (k : ltN t' a' t'' a'' = true) : ltN t a t'' a'' = true := by
  simp only [ltN, Bool.or_eq_true, Bool.and_eq_true, decide_eq_true_eq] at *
  rcases h with h | ⟨rfl, h⟩ <;> rcases k with k | ⟨rfl, k⟩
  · exact .inl (List.lt_trans h k)
  · exact .inl h
  · exact .inl k
  · exact .inr ⟨rfl, List.lt_trans h k⟩
theorem ltN_asymm {t a t' a' : ByteArray} (h : ltN t a t' a' = true) : ltN t' a' t a = false := by
  cases hk : ltN t' a' t a
  · rfl
  · exact absurd (ltN_trans h hk) (by rw [ltN_irrefl]; simp)
theorem lt_three (s s' : ByteArray) : s.data.toList < s'.data.toList ∨ s = s' ∨ s'.data.toList < s.data.toList := by
  rcases List.le_total s.data.toList s'.data.toList with h | h
  · rcases List.le_iff_lt_or_eq.1 h with h | h
    · exact .inl h
    · exact .inr (.inl (str_data h))
  · rcases List.le_iff_lt_or_eq.1 h with h | h
    · exact .inr (.inr h)
    · exact .inr (.inl (str_data h).symm)
theorem ltN_three (t a t' a' : ByteArray) : ltN t a t' a' = true ∨ (t = t' ∧ a = a') ∨ ltN t' a' t a = true := by
  simp only [ltN, Bool.or_eq_true, Bool.and_eq_true, decide_eq_true_eq]
  rcases lt_three t t' with h | rfl | h
  · exact .inl (.inl h)
  · rcases lt_three a a' with h | rfl | h
    · exact .inl (.inr ⟨rfl, h⟩)
    · exact .inr (.inl ⟨rfl, rfl⟩)
    · exact .inr (.inr (.inr ⟨rfl, h⟩))
  · exact .inr (.inr (.inl h))
/-- The leases in order, no name twice. -/
def Asc (L : List Lse) : Prop := L.Pairwise fun x y => ltL x y = true
theorem Asc.names {L : List Lse} (h : Asc L) : L.Pairwise (fun x y => ¬ (x.t = y.t ∧ x.a = y.a)) :=
  List.Pairwise.imp (fun {x y} hlt ⟨e1, e2⟩ => by unfold ltL at hlt; rw [e1, e2, ltN_irrefl] at hlt; cases hlt) h
/-- Two ascending lists with the same members are one. -/
theorem Asc.unique {L L' : List Lse} (h : Asc L) (h' : Asc L') (hp : L.Perm L') : L = L' :=
  hp.eq_of_pairwise (fun x y _ _ h1 h2 => by
    have := ltN_asymm (t := x.t) (a := x.a) (t' := y.t) (a' := y.a) h1
    rw [show ltN y.t y.a x.t x.a = true from h2] at this
    cases this) h h'
/-- The list with x at its place. -/
def insL (x : Lse) (L : List Lse) : List Lse := L.filter (fun y => ltL y x) ++ x :: L.filter (fun y => ltL x y)
theorem insL_asc {L : List Lse} (h : Asc L) (x : Lse) : Asc (insL x L) := by
  unfold insL Asc
  refine List.pairwise_append.2 ⟨h.filter _, List.pairwise_cons.2 ⟨fun y hy => (List.mem_filter.1 hy).2, h.filter _⟩, fun y hy z hz => ?_⟩
  have hy := (List.mem_filter.1 hy).2
  rcases List.mem_cons.1 hz with rfl | hz
  · exact hy
  · exact ltN_trans hy (List.mem_filter.1 hz).2
theorem notN_or (x y : Lse) : notN x.t x.a y = (ltL y x || ltL x y) := by
  unfold notN ltL
  rcases ltN_three y.t y.a x.t x.a with h | ⟨h1, h2⟩ | h
  · have hne : ¬ (y.t = x.t ∧ y.a = x.a) := fun ⟨e1, e2⟩ => by rw [e1, e2, ltN_irrefl] at h; cases h
    rw [h]
    by_cases e : y.t = x.t <;> simp [e] <;> exact fun e2 => hne ⟨e, e2⟩
  · rw [h1, h2, ltN_irrefl]; simp
  · have hne : ¬ (y.t = x.t ∧ y.a = x.a) := fun ⟨e1, e2⟩ => by rw [e1, e2, ltN_irrefl] at h; cases h
    rw [h]
    by_cases e : y.t = x.t <;> simp [e] <;> exact fun e2 => hne ⟨e, e2⟩
theorem filter_two {α : Type} (p q : α → Bool) (hpq : ∀ y, p y = true → q y = false) : ∀ L : List α, (L.filter p ++ L.filter q).Perm (L.filter fun y => p y || q y)
  | [] => .nil
  | y :: L => by
    have ih := filter_two p q hpq L
    cases hp : p y
    · cases hq : q y
      · simpa [List.filter_cons, hp, hq] using ih
      · simp only [List.filter_cons, hp, hq, Bool.or_true, if_true]
        simpa using List.perm_middle.trans (ih.cons y)
    · have hq := hpq y hp
      simpa [List.filter_cons, hp, hq] using ih.cons y
theorem insL_perm (x : Lse) (L : List Lse) : (x :: L.filter (notN x.t x.a)).Perm (insL x L) := by
  refine List.Perm.trans ?_ List.perm_middle.symm
  refine List.Perm.cons _ ?_
  have h := filter_two (fun y => ltL y x) (fun y => ltL x y) (fun y hy => ltN_asymm hy) L
  rw [show (fun y => ltL y x || ltL x y) = notN x.t x.a from funext fun y => (notN_or x y).symm] at h
  exact h.symm
theorem mem_insL {x y : Lse} {L : List Lse} : y ∈ insL x L ↔ y = x ∨ (y ∈ L ∧ ¬ (y.t = x.t ∧ y.a = x.a)) := by
  rw [← (insL_perm x L).mem_iff, List.mem_cons, List.mem_filter]
  unfold notN
  simp only [Bool.not_eq_true', Bool.and_eq_false_iff, decide_eq_false_iff_not, Classical.not_and_iff_not_or_not]
/-- The lease of a name. -/
def lookL (L : List Lse) (t a : ByteArray) : Option Lse := L.find? fun y => !notN t a y
def cntL (L : List Lse) (t : ByteArray) : Nat := (L.filter fun y => decide (y.t = t)).length
theorem lookL_some {L : List Lse} {t a : ByteArray} {x : Lse} (h : lookL L t a = some x) : x ∈ L ∧ x.t = t ∧ x.a = a := by
  refine ⟨List.mem_of_find?_eq_some h, ?_⟩
  have := List.find?_some h
  simpa [notN] using this
theorem lookL_none {L : List Lse} {t a : ByteArray} (h : lookL L t a = none) : ∀ x ∈ L, ¬ (x.t = t ∧ x.a = a) := by
  intro x hx
  have := List.find?_eq_none.1 h x hx
  simpa [notN] using this
theorem same_of_name {L : List Lse} (h : Asc L) {x y : Lse} (hx : x ∈ L) (hy : y ∈ L) (ht : x.t = y.t) (ha : x.a = y.a) : x = y := by
  unfold Asc at h
  obtain ⟨i, hi, rfl⟩ := List.mem_iff_getElem.1 hx
  obtain ⟨j, hj, rfl⟩ := List.mem_iff_getElem.1 hy
  have hp := List.pairwise_iff_getElem.1 h
  rcases Nat.lt_trichotomy i j with hij | rfl | hij
  · have := hp i j hi hj hij
    unfold ltL at this
    rw [ht, ha, ltN_irrefl] at this; cases this
  · rfl
  · have := hp j i hj hi hij
    unfold ltL at this
    rw [ht, ha, ltN_irrefl] at this; cases this
theorem lookL_mem {L : List Lse} (h : Asc L) {x : Lse} (hx : x ∈ L) : lookL L x.t x.a = some x := by
  cases hq : lookL L x.t x.a with
  | none => exact absurd ⟨rfl, rfl⟩ (lookL_none hq x hx)
  | some y =>
    obtain ⟨h1, h2, h3⟩ := lookL_some hq
    rw [same_of_name h h1 hx h2 h3]
/-- Cuts of a list at k. -/
theorem split_at {α : Type} {L : List α} {k : Nat} {y : α} (h : L[k]? = some y) : L = L.take k ++ y :: L.drop (k + 1) := by
  obtain ⟨hk, rfl⟩ := List.getElem?_eq_some_iff.1 h
  rw [← List.drop_eq_getElem_cons hk, List.take_append_drop]
theorem take_succ_of {α : Type} {L : List α} {k : Nat} {y : α} (h : L[k]? = some y) : L.take (k + 1) = L.take k ++ [y] := by
  rw [List.take_add_one, h]; rfl
theorem drop_of {α : Type} {L : List α} {k : Nat} {y : α} (h : L[k]? = some y) : L.drop k = y :: L.drop (k + 1) := by
  obtain ⟨hk, rfl⟩ := List.getElem?_eq_some_iff.1 h
  exact List.drop_eq_getElem_cons hk
/-- What the reference's Take has gathered of the first names: those before x; x, if one behind it has come; those behind. -/
def accI (x : Lse) (l : List Lse) : List Lse := l.filter (fun y => ltL y x) ++ ((if l.any (fun y => ltL x y) then [x] else []) ++ l.filter (fun y => ltL x y))
theorem accI_same {x : Lse} {L : List Lse} {k : Nat} {y : Lse} (hy : L[k]? = some y) (ht : y.t = x.t) (ha : y.a = x.a) : accI x (L.take (k + 1)) = accI x (L.take k) ∧ (L.take (k + 1)).any (fun y => ltL x y) = (L.take k).any (fun y => ltL x y) := by
  have h1 : ltL y x = false := by unfold ltL; rw [ht, ha, ltN_irrefl]
  have h2 : ltL x y = false := by unfold ltL; rw [ht, ha, ltN_irrefl]
  rw [take_succ_of hy]
  unfold accI
  simp [List.filter_append, h1, h2]
theorem any_false_of {x : Lse} {l : List Lse} (h : l.any (fun y => ltL x y) = false) : l.filter (fun y => ltL x y) = [] := by
  rw [List.filter_eq_nil_iff]
  intro y hy he
  have := List.any_eq_false.1 h y hy
  exact this he
/-- None behind x has come: y, behind it, comes with x ahead. -/
theorem accI_first {x : Lse} {L : List Lse} {k : Nat} {y : Lse} (hy : L[k]? = some y) (hd : (L.take k).any (fun y => ltL x y) = false) (hlt : ltL x y = true) : accI x (L.take (k + 1)) = accI x (L.take k) ++ [x, y] ∧ (L.take (k + 1)).any (fun y => ltL x y) = true := by
  have h1 : ltL y x = false := ltN_asymm hlt
  rw [take_succ_of hy]
  unfold accI
  have h0 := any_false_of hd
  simp [List.filter_append, h1, hlt, hd, h0]
theorem accI_before {x : Lse} {L : List Lse} {k : Nat} {y : Lse} (hy : L[k]? = some y) (hd : (L.take k).any (fun y => ltL x y) = false) (hlt : ltL y x = true) : accI x (L.take (k + 1)) = accI x (L.take k) ++ [y] ∧ (L.take (k + 1)).any (fun y => ltL x y) = false := by
  have h1 : ltL x y = false := ltN_asymm hlt
  rw [take_succ_of hy]
  unfold accI
  have h0 := any_false_of hd
  simp [List.filter_append, h1, hlt, hd, h0]
/-- One behind x has come: all that follow are behind it. -/
theorem accI_behind {x : Lse} {L : List Lse} (hL : Asc L) {k : Nat} {y : Lse} (hy : L[k]? = some y) (hd : (L.take k).any (fun y => ltL x y) = true) : ltL x y = true ∧ accI x (L.take (k + 1)) = accI x (L.take k) ++ [y] ∧ (L.take (k + 1)).any (fun y => ltL x y) = true := by
  obtain ⟨z, hz, hxz⟩ := List.any_eq_true.1 hd
  have hs := split_at hy
  have hzy : ltL z y = true := by
    unfold Asc at hL
    rw [hs] at hL
    exact (List.pairwise_append.1 hL).2.2 z hz y (by simp)
  have hlt : ltL x y = true := ltN_trans hxz hzy
  have h1 : ltL y x = false := ltN_asymm hlt
  refine ⟨hlt, ?_⟩
  rw [take_succ_of hy]
  unfold accI
  simp [List.filter_append, h1, hlt, hd]
theorem accI_done {x : Lse} {L : List Lse} (hd : L.any (fun y => ltL x y) = true) : accI x L = insL x L := by
  unfold accI insL; simp [hd]
theorem accI_end {x : Lse} {L : List Lse} (hd : L.any (fun y => ltL x y) = false) : accI x L ++ [x] = insL x L := by
  unfold accI insL
  rw [any_false_of hd]
  simp [hd]
theorem accI_length (x : Lse) (l : List Lse) : (accI x l).length ≤ l.length + 1 := by
  have h := (filter_two (fun y => ltL y x) (fun y => ltL x y) (fun y hy => ltN_asymm hy) l).length_eq
  rw [List.length_append] at h
  have h2 := List.length_filter_le (fun y => ltL y x || ltL x y) l
  unfold accI
  rw [List.length_append, List.length_append]
  split <;> simp <;> omega
theorem insL_length (x : Lse) (l : List Lse) : (insL x l).length ≤ l.length + 1 := by
  rw [← (insL_perm x l).length_eq, List.length_cons]
  have := List.length_filter_le (notN x.t x.a) l
  omega
/-- Those of which p holds are struck, one after the other. -/
theorem strike_step {p : Lse → Bool} {L : List Lse} (hL : Asc L) {k : Nat} {y : Lse} (hy : L[k]? = some y) (hp : p y = true) :
    ((L.take k).filter (fun z => !p z) ++ L.drop k).filter (notN y.t y.a) = (L.take (k + 1)).filter (fun z => !p z) ++ L.drop (k + 1) := by
  have hn := hL.names
  rw [split_at hy] at hn
  obtain ⟨_, h2, h3⟩ := List.pairwise_append.1 hn
  have hb := (List.pairwise_cons.1 h2).1
  have f1 : ((L.take k).filter fun z => !p z).filter (notN y.t y.a) = (L.take k).filter fun z => !p z := List.filter_eq_self.2 fun z hz => ?_
  have f2 : (L.drop (k + 1)).filter (notN y.t y.a) = L.drop (k + 1) := List.filter_eq_self.2 fun z hz => ?_
  · have : notN y.t y.a y = false := by simp [notN]
    rw [drop_of hy, take_succ_of hy, List.filter_append, List.filter_append, List.filter_cons, f1, f2]
    simp [this, hp]
  · have := hb z hz
    unfold notN
    cases e1 : decide (z.t = y.t) <;> cases e2 : decide (z.a = y.a) <;> simp at *
    exact this e1.symm e2.symm
  · have := h3 z (List.mem_filter.1 hz).1 y (by simp)
    unfold notN
    cases e1 : decide (z.t = y.t) <;> cases e2 : decide (z.a = y.a) <;> simp at *
    exact this e1 e2
theorem keep_step {p : Lse → Bool} {L : List Lse} {k : Nat} {y : Lse} (hy : L[k]? = some y) (hp : p y = false) :
    (L.take k).filter (fun z => !p z) ++ L.drop k = (L.take (k + 1)).filter (fun z => !p z) ++ L.drop (k + 1) := by
  rw [drop_of hy, take_succ_of hy, List.filter_append]
  simp [hp]
/-- Each of which p holds is turned, one after the other. -/
theorem turn_step {f : Lse → Lse} (hf : ∀ y, (f y).t = y.t ∧ (f y).a = y.a) {L : List Lse} (hL : Asc L) {k : Nat} {y : Lse} (hy : L[k]? = some y) :
    (f y :: ((L.take k).map f ++ L.drop k).filter (notN (f y).t (f y).a)).Perm ((L.take (k + 1)).map f ++ L.drop (k + 1)) := by
  have hn := hL.names
  rw [split_at hy] at hn
  obtain ⟨_, h2, h3⟩ := List.pairwise_append.1 hn
  have hb := (List.pairwise_cons.1 h2).1
  rw [(hf y).1, (hf y).2]
  have f1 : ((L.take k).map f).filter (notN y.t y.a) = (L.take k).map f := List.filter_eq_self.2 fun z hz => ?_
  have f2 : (L.drop (k + 1)).filter (notN y.t y.a) = L.drop (k + 1) := List.filter_eq_self.2 fun z hz => ?_
  · have : notN y.t y.a y = false := by simp [notN]
    rw [drop_of hy, take_succ_of hy, List.filter_append, List.filter_cons, f1, f2]
    simp only [this, List.map_append, List.map_cons, List.map_nil]
    rw [List.append_assoc]
    exact List.perm_middle.symm
  · have := hb z hz
    unfold notN
    cases e1 : decide (z.t = y.t) <;> cases e2 : decide (z.a = y.a) <;> simp at *
    exact this e1.symm e2.symm
  · obtain ⟨u, hu, rfl⟩ := List.mem_map.1 hz
    have := h3 u hu y (by simp)
    rw [← (hf u).1, ← (hf u).2] at this
    unfold notN
    cases e1 : decide ((f u).t = y.t) <;> cases e2 : decide ((f u).a = y.a) <;> simp at *
    exact this e1 e2
theorem asc_map {f : Lse → Lse} (hf : ∀ y, (f y).t = y.t ∧ (f y).a = y.a) {L : List Lse} (h : Asc L) : Asc (L.map f) := by
  unfold Asc at *
  rw [List.pairwise_map]
  refine h.imp fun {x y} hxy => ?_
  unfold ltL at *
  rw [(hf x).1, (hf x).2, (hf y).1, (hf y).2]; exact hxy
theorem asc_filter {p : Lse → Bool} {L : List Lse} (h : Asc L) : Asc (L.filter p) := List.Pairwise.filter _ h
end Go.Proofs.YtlkgdnmfgcmldaaDoor
