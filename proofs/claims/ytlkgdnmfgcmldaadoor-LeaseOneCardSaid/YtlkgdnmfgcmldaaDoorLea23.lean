/- The acts of a law; what is done of other names changes nothing of a tenant's: the plain law. -/
import Derived.Test.YtlkgdnmfgcmldaaDoorLea21
namespace Go.Proofs.YtlkgdnmfgcmldaaDoor
open Go.RowKit Go.Spk
set_option linter.unusedVariables false
structure Act where
  k : Int
  t : ByteArray
  a : ByteArray
  o : Int
  n : Int
def actC (x : Act) : List Value := [.int .i64 x.k, .string x.t, .string x.a, .int .i64 x.o, .int .i64 x.n]
/-- A slice of acts, as it lies in memory. -/
def ActsAt (w : World) (A : Option Addr) (xs : List Act) : Prop :=
  ∀ j x, xs[j]? = some x → x.t.size ≤ maxLen ∧ x.a.size ≤ maxLen ∧ ∃ B o, A = some ⟨B, o, none⟩ ∧ B < w.heap.size ∧ ∀ i u, (actC x)[i]? = some u → w.cell? ⟨B, o + j * 5 + i, none⟩ = some u
theorem ActsAt.below {w w' : World} {A : Option Addr} {xs : List Act} (h : ActsAt w A xs) (hb : Below w.heap.size w w') : ActsAt w' A xs := by
  intro j x hj
  obtain ⟨h1, h2, B, o, h3, h4, h5⟩ := h j x hj
  exact ⟨h1, h2, B, o, h3, Nat.lt_of_lt_of_le h4 hb.size, fun i u hu => (hb.cell (p := ⟨B, _, none⟩) h4).trans (h5 i u hu)⟩
def cutB (s : ByteArray) (n : Nat) : ByteArray := if n < s.size then s.extract 0 n else s
theorem cutB_size (s : ByteArray) (n : Nat) : (cutB s n).size ≤ n := by
  unfold cutB
  split
  · simp; omega
  · omega
theorem cut_calls (s : ByteArray) (hs : s.size ≤ maxLen) (n : Nat) (hn : n ≤ 1000000000) (w : World) :
    Calls Tryd.prog 20 #[.string s, .int .i64 n] w fun e w' => e = .returned (.string (cutB s n)) ∧ w' = w := by
  unfold maxLen at hs
  by_cases h : n < s.size
  · have hi : (n : Int) < s.size := by omega
    have hi2 : (n : Int) ≤ s.size := by omega
    have e : cutB s n = s.extract 0 n := by unfold cutB; rw [if_pos h]
    rw [e]
    clear e
    go_enter Tryd.func20, Tryd.ntmps20
    go_wp2
    go_ret
    exact ⟨rfl, rfl⟩
  · have hi : ¬ (n : Int) < s.size := by omega
    have e : cutB s n = s := by unfold cutB; rw [if_neg h]
    rw [e]
    clear e
    go_enter Tryd.func20, Tryd.ntmps20
    go_wp2
    go_ret
    exact ⟨rfl, rfl⟩
/-! ### The plain law -/
def e0 (y : Lse) : Lse := ⟨y.t, y.a, y.o, 0, y.l⟩
def isT (y : Lse) : Bool := decide (y.t = sT)
/-- The second table holds what the first holds of the tenant t, but for epochs. -/
structure Apart (LA LB : List Lse) : Prop where
  asc : Asc LA
  ascB : Asc LB
  mine : ∀ y ∈ LB, y.t = sT
  same : LB.map e0 = (LA.filter isT).map e0
theorem filter_comm' {α : Type} (p q : α → Bool) (L : List α) : (L.filter p).filter q = (L.filter q).filter p := by
  rw [List.filter_filter, List.filter_filter]
  exact List.filter_congr fun x _ => Bool.and_comm _ _
theorem filter_map_e0 (p : Lse → Bool) (hp : ∀ y, p (e0 y) = p y) (L : List Lse) : (L.filter p).map e0 = (L.map e0).filter p := by
  rw [List.filter_map]
  congr 1
  exact List.filter_congr fun y _ => (hp y).symm
theorem Apart.filter {LA LB : List Lse} (h : Apart LA LB) (p : Lse → Bool) (hp : ∀ y, p (e0 y) = p y) : Apart (LA.filter p) (LB.filter p) := by
  refine ⟨asc_filter h.asc, asc_filter h.ascB, fun y hy => h.mine y (List.mem_filter.1 hy).1, ?_⟩
  rw [filter_map_e0 p hp, h.same, ← filter_map_e0 p hp, filter_comm']
theorem Apart.turn {LA LB : List Lse} (h : Apart LA LB) (f : Lse → Lse) (hf : ∀ y, (f y).t = y.t ∧ (f y).a = y.a) (he : ∀ y, e0 (f y) = f (e0 y)) : Apart (LA.map f) (LB.map f) := by
  refine ⟨asc_map hf h.asc, asc_map hf h.ascB, fun y hy => ?_, ?_⟩
  · obtain ⟨z, hz, rfl⟩ := List.mem_map.1 hy
    rw [(hf z).1]; exact h.mine z hz
  · have h1 : ∀ L : List Lse, (L.map f).map e0 = (L.map e0).map f := fun L => by
      rw [List.map_map, List.map_map]; exact List.map_congr_left fun y _ => he y
    have h2 : (LA.map f).filter isT = (LA.filter isT).map f := by
      rw [List.filter_map]
      congr 1
      exact List.filter_congr fun y _ => by show isT (f y) = isT y; unfold isT; rw [(hf y).1]
    rw [h1, h.same, h2, h1]
/-- What is done of another tenant's name. -/
theorem Apart.strikeA {LA LB : List Lse} (h : Apart LA LB) (t a : ByteArray) (ht : t ≠ sT) : Apart (LA.filter (notN t a)) LB := by
  refine ⟨asc_filter h.asc, h.ascB, h.mine, ?_⟩
  rw [h.same, List.filter_filter]
  congr 1
  refine List.filter_congr fun y _ => ?_
  unfold isT notN
  by_cases hy : y.t = sT
  · have hn : decide (y.t = t) = false := decide_eq_false fun e => ht (e.symm.trans hy)
    rw [hn]; simp
  · simp [hy]
theorem Apart.otherA {LA LB : List Lse} (h : Apart LA LB) (x : Lse) (hx : x.t ≠ sT) : Apart (insL x LA) LB := by
  refine ⟨insL_asc h.asc x, h.ascB, h.mine, ?_⟩
  rw [h.same]
  congr 1
  refine (asc_filter h.asc).unique (asc_filter (insL_asc h.asc x)) ?_
  have hp := (insL_perm x LA).filter isT
  rw [List.filter_cons, show isT x = false by unfold isT; simpa using hx] at hp
  refine List.Perm.trans (List.Perm.of_eq ?_) hp
  rw [List.filter_filter]
  simp only [Bool.false_eq_true, if_false]
  refine List.filter_congr fun y _ => ?_
  unfold isT notN
  by_cases hy : y.t = sT
  · have hn : decide (y.t = x.t) = false := decide_eq_false fun e => hx (e.symm.trans hy)
    rw [hn]; simp
  · simp [hy]
theorem map_insL (x x' : Lse) (L : List Lse) (ht : x.t = x'.t) (ha : x.a = x'.a) (he : e0 x = e0 x') : (insL x L).map e0 = insL (e0 x') (L.map e0) := by
  unfold insL
  rw [List.map_append, List.map_cons, he, List.filter_map, List.filter_map]
  have h1 : ∀ y, ltL y x = ltL (e0 y) (e0 x') := fun y => by unfold ltL e0; rw [ht, ha]
  have h2 : ∀ y, ltL x y = ltL (e0 x') (e0 y) := fun y => by unfold ltL e0; rw [ht, ha]
  congr 1
  · congr 1
    exact List.filter_congr fun y _ => h1 y
  · congr 2
    exact List.filter_congr fun y _ => h2 y
theorem filter_insL (x : Lse) (L : List Lse) (hx : isT x = true) : (insL x L).filter isT = insL x (L.filter isT) := by
  unfold insL
  rw [List.filter_append, List.filter_cons, hx, if_pos rfl, filter_comm' _ isT, filter_comm' _ isT]
theorem Apart.both {LA LB : List Lse} (h : Apart LA LB) (x x' : Lse) (hx : x.t = sT) (ht : x.t = x'.t) (ha : x.a = x'.a) (he : e0 x = e0 x') : Apart (insL x LA) (insL x' LB) := by
  refine ⟨insL_asc h.asc x, insL_asc h.ascB x', fun y hy => ?_, ?_⟩
  · rcases mem_insL.1 hy with rfl | ⟨hm, _⟩
    · exact ht.symm.trans hx
    · exact h.mine y hm
  · rw [map_insL x' x' LB rfl rfl rfl, filter_insL x LA (by unfold isT; simpa using hx), map_insL x x' _ ht ha he, h.same]
theorem look_e0 (L : List Lse) (t a : ByteArray) : (lookL L t a).map e0 = lookL (L.map e0) t a := by
  unfold lookL
  rw [List.find?_map]
  rfl
theorem look_filter (L : List Lse) (a : ByteArray) : lookL (L.filter isT) sT a = lookL L sT a := by
  unfold lookL
  rw [List.find?_filter]
  congr 1
  funext y
  unfold isT notN
  by_cases hy : y.t = sT <;> simp [hy]
theorem Apart.look {LA LB : List Lse} (h : Apart LA LB) (a : ByteArray) : (lookL LB sT a).map e0 = (lookL LA sT a).map e0 := by
  rw [look_e0, h.same, ← look_e0, look_filter]
theorem Apart.length {LA LB : List Lse} (h : Apart LA LB) : (LA.filter isT).length = LB.length := by
  have := congrArg List.length h.same
  rw [List.length_map, List.length_map] at this
  exact this.symm
theorem Apart.cnt {LA LB : List Lse} (h : Apart LA LB) : cntL LA sT = LB.length ∧ cntL LB sT = LB.length := by
  refine ⟨h.length, ?_⟩
  unfold cntL
  rw [List.filter_eq_self.2]
  intro y hy
  simpa using h.mine y hy
/-- Cancel. -/
theorem Apart.cancel {LA LB : List Lse} (h : Apart LA LB) (t a : ByteArray) (o : Int) : Apart (cancelM LA t a o).1 (if t = sT then (cancelM LB t a o).1 else LB) := by
  by_cases ht : t = sT
  · subst ht
    rw [if_pos rfl]
    have hl := h.look a
    unfold cancelM
    cases hA : lookL LA sT a with
    | none =>
      rw [hA] at hl
      cases hB : lookL LB sT a with
      | none => exact h
      | some y => rw [hB] at hl; cases hl
    | some x =>
      rw [hA] at hl
      cases hB : lookL LB sT a with
      | none => rw [hB] at hl; cases hl
      | some y =>
        rw [hB] at hl
        have ho : y.o = x.o := (show (e0 y).o = (e0 x).o by rw [show e0 y = e0 x by simpa using hl])
        simp only [ho]
        by_cases hx : x.o = o
        · rw [if_pos hx, if_pos hx]
          exact h.filter _ (fun z => rfl)
        · rw [if_neg hx, if_neg hx]
          exact h
  · rw [if_neg ht]
    unfold cancelM
    cases hA : lookL LA t a with
    | none => exact h
    | some x =>
      by_cases hx : x.o = o
      · simp only [if_pos hx]; exact h.strikeA t a ht
      · simp only [if_neg hx]; exact h
/-- Take. -/
theorem Apart.take {LA LB : List Lse} (h : Apart LA LB) (nm ea eb : Int) (t a : ByteArray) (o now : Int) (hA : LA.length < 4096) (hB : LB.length < 4096) :
    Apart (takeM nm 4096 ea LA t a o now).L (if t = sT then (takeM nm 4096 eb LB t a o now).L else LB) ∧
    (t = sT → (takeM nm 4096 ea LA t a o now).was = (takeM nm 4096 eb LB t a o now).was ∧ (takeM nm 4096 ea LA t a o now).code = (takeM nm 4096 eb LB t a o now).code) := by
  have hA' : ¬ (4096 : Int) ≤ (LA.length : Int) := by omega
  have hB' : ¬ (4096 : Int) ≤ (LB.length : Int) := by omega
  by_cases ht : t = sT
  · subst ht
    rw [if_pos rfl]
    have hl := h.look a
    have hc := h.cnt
    have hboth : ∀ was was', Apart (newM LA ea sT a o now was).L (newM LB eb sT a o now was').L := fun was was' => h.both _ _ rfl rfl rfl rfl
    unfold takeM
    by_cases hv : (validB sT && validB a) = true
    · rw [if_pos hv, if_pos hv]
      cases hqA : lookL LA sT a with
      | none =>
        rw [hqA] at hl
        cases hqB : lookL LB sT a with
        | some y => rw [hqB] at hl; cases hl
        | none =>
          simp only [hc.1, hc.2, if_neg hA', if_neg hB']
          by_cases hn : nm ≤ (LB.length : Int)
          · rw [if_pos hn, if_pos hn]
            exact ⟨h, fun _ => ⟨rfl, rfl⟩⟩
          · rw [if_neg hn, if_neg hn]
            exact ⟨hboth _ _, fun _ => ⟨rfl, rfl⟩⟩
      | some x =>
        rw [hqA] at hl
        cases hqB : lookL LB sT a with
        | none => rw [hqB] at hl; cases hl
        | some y =>
          rw [hqB] at hl
          have ho : y.o = x.o := (show (e0 y).o = (e0 x).o by rw [show e0 y = e0 x by simpa using hl])
          simp only [ho]
          by_cases hx : x.o = o
          · rw [if_pos hx, if_pos hx]
            exact ⟨h, fun _ => ⟨rfl, rfl⟩⟩
          · rw [if_neg hx, if_neg hx]
            exact ⟨hboth _ _, fun _ => ⟨rfl, rfl⟩⟩
    · rw [if_neg hv, if_neg hv]
      exact ⟨h, fun _ => ⟨rfl, rfl⟩⟩
  · rw [if_neg ht]
    refine ⟨?_, fun e => absurd e ht⟩
    have ho : ∀ was, Apart (newM LA ea t a o now was).L LB := fun was => h.otherA _ ht
    unfold takeM
    split
    · split
      · split
        · exact h
        · exact ho _
      · split
        · exact h
        · exact ho _
    · exact h
theorem Apart.beat {LA LB : List Lse} (h : Apart LA LB) (o tk : Int) : Apart (LA.map (updL o tk)) (LB.map (updL o tk)) :=
  h.turn _ (updL_name o tk) (fun y => by unfold updL e0; by_cases ho : y.o = o <;> simp [ho])
theorem Apart.drop {LA LB : List Lse} (h : Apart LA LB) (o : Int) : Apart (LA.filter fun y => !isOwn o y) (LB.filter fun y => !isOwn o y) := h.filter _ (fun y => rfl)
theorem Apart.expire {LA LB : List Lse} (h : Apart LA LB) (l tk : Int) : Apart (LA.filter fun y => !isOver l tk y) (LB.filter fun y => !isOver l tk y) := h.filter _ (fun y => rfl)
end Go.Proofs.YtlkgdnmfgcmldaaDoor
