/- The table of leases: a map by names whose entries are a list of leases, no name twice. -/
import Derived.Test.YtlkgdnmfgcmldaaDoorProg
import Derived.Test.YtlkgdnmfgcmldaaDoorChecked
import Derived.Test.YtlkgdnmfgcmldaaDoorA1
import Derived.Maps.RangeWalk
import Derived.DeepKeys5
import Derived.Lib.Hide
namespace Go.Proofs.YtlkgdnmfgcmldaaDoor
open Go.RowKit Go.Spk
open Go.Maps (Keyed)
set_option linter.unusedVariables false
/-- A lease. -/
structure Lse where
  t : ByteArray
  a : ByteArray
  o : Int
  e : Int
  l : Int
def nameV (t a : ByteArray) : Value := .agg #[.string t, .string a]
def lseV (x : Lse) : Value := .agg #[.string x.t, .string x.a, .int .i64 x.o, .int .i64 x.e, .int .i64 x.l]
def lse0 : Lse := ⟨⟨#[]⟩, ⟨#[]⟩, 0, 0, 0⟩
theorem lseV_inj {x y : Lse} (h : lseV x = lseV y) : x = y := by
  unfold lseV at h
  simp only [Value.agg.injEq, Array.mk.injEq, List.cons.injEq, Value.string.injEq, Value.int.injEq, true_and, and_true] at h
  cases x; cases y
  simp_all
theorem nameV_inj {t a t' a' : ByteArray} (h : nameV t a = nameV t' a') : t = t' ∧ a = a' := by
  unfold nameV at h
  simp only [Value.agg.injEq, Array.mk.injEq, List.cons.injEq, Value.string.injEq, and_true] at h
  exact h
def lseD (x : Lse) : DataW Unit := .agg [.lit (.string x.t.data.toList), .lit (.string x.a.data.toList), .lit (.int .i64 x.o), .lit (.int .i64 x.e), .lit (.int .i64 x.l)]
theorem str_data {s s' : ByteArray} (h : s.data.toList = s'.data.toList) : s = s' := by
  cases s; cases s'
  simp only [ByteArray.mk.injEq]
  exact Array.ext' h
theorem lseD_inj {x y : Lse} (h : lseD x = lseD y) : x = y := by
  unfold lseD at h
  simp only [DataW.agg.injEq, List.cons.injEq, DataW.lit.injEq, Lit.string.injEq, Lit.int.injEq, true_and, and_true] at h
  obtain ⟨h1, h2, h3, h4, h5⟩ := h
  cases x; cases y
  simp only [Lse.mk.injEq]
  exact ⟨str_data h1, str_data h2, h3, h4, h5⟩
open Classical in
/-- How a lease in the map reads. -/
noncomputable def lseR (v : Value) : Option (DataW Unit × List MemPlace) := if h : ∃ x, v = lseV x then some (lseD h.choose, []) else none
theorem lseR_mk (x : Lse) : lseR (lseV x) = some (lseD x, []) := by
  unfold lseR
  have h : ∃ y, lseV x = lseV y := ⟨x, rfl⟩
  rw [dif_pos h, lseV_inj h.choose_spec.symm]
theorem lseR_inv {v : Value} {z : DataW Unit × List MemPlace} (h : lseR v = some z) : ∃ x, v = lseV x ∧ z = (lseD x, []) := by
  unfold lseR at h
  split at h
  · rename_i hx
    exact ⟨hx.choose, hx.choose_spec, (Option.some.inj h).symm⟩
  · cases h
theorem nameKeyed : Keyed Tryd.prog 64 := Keyed.of_law (deep_law_gate (by kernel_rfl) (of_decide_eq_true (by kernel_rfl)) (of_decide_eq_true (by kernel_rfl)) (by kernel_rfl) (by kernel_rfl))
def kBytes (t a : ByteArray) : Lit := .string (keyBytes [.string t.data.toList, .string a.data.toList])
theorem nameType : Tryd.prog.keyType 64 = true := by kernel_rfl
theorem nameCells : Tryd.prog.cellsOf 64 = 2 := by kernel_rfl
theorem strCells : Tryd.prog.cellsOf 9 = 1 := by kernel_rfl
noncomputable def fieldsN : Array Field := match Tryd.prog.underlying 64 with | some (.struct fs) => fs | _ => #[]
theorem fieldsN_is : Tryd.prog.underlying 64 = some (.struct fieldsN) := by kernel_rfl
theorem fieldsN_all : fieldsN.all (·.name != "_") = true := by kernel_rfl
theorem fieldsN_list : fieldsN.toList.map (fun f => (f.type, f.offset)) = [(9, 0), (9, 1)] := by kernel_rfl
theorem typesSize : ∃ n, Tryd.prog.types.size = n + 1 := by
  have h : 0 < Tryd.prog.types.size := of_decide_eq_true (by kernel_rfl)
  exact ⟨Tryd.prog.types.size - 1, by omega⟩
theorem key_of (t a : ByteArray) (ht : t.size ≤ maxLen) (ha : a.size ≤ maxLen) : keyOf Tryd.prog 64 (nameV t a) = some (kBytes t a) := by
  have hs : ∀ (d : Nat) (s : ByteArray), s.size ≤ maxLen → Tryd.prog.keyLits (d + 1) 9 [.string s] = some [.string s.data.toList] := fun d s h => by
    simp [Program.keyLits, Tryd.underlying9, h]
  obtain ⟨n, hn⟩ := typesSize
  obtain ⟨f, g, hfg⟩ : ∃ f g, fieldsN.toList = [f, g] := by
    have h := congrArg List.length fieldsN_list
    rw [List.length_map] at h
    match hq : fieldsN.toList with
    | [f, g] => exact ⟨f, g, rfl⟩
    | [] => rw [hq] at h; cases h
    | [_] => rw [hq] at h; cases h
    | _ :: _ :: _ :: _ => rw [hq] at h; simp at h
  have hl := fieldsN_list
  rw [hfg] at hl
  simp only [List.map_cons, List.map_nil, List.cons.injEq, Prod.mk.injEq, and_true] at hl
  obtain ⟨⟨f1, f2⟩, g1, g2⟩ := hl
  have hall := fieldsN_all
  unfold keyOf
  rw [fieldsN_is]
  simp only [nameType, Bool.true_and]
  have hform : (nameV t a).formed Tryd.prog 64 = true := by
    unfold nameV
    simp [Value.formed, nameCells]
  rw [hform, if_pos rfl, hn]
  unfold Program.keyLits
  rw [fieldsN_is]
  simp only [nameV, Value.cells, nameCells, hall, hfg]
  simp [f1, f2, g1, g2, strCells, hs _ t ht, hs _ a ha, kBytes]
def entL (x : Lse) : Lit × DataW Unit := (kBytes x.t x.a, lseD x)
/-- Block b is the table whose leases are L, in whatever order. -/
structure TabAt (w : World) (b : Nat) (L : List Lse) : Prop where
  map : ∃ n S, w.ownsMap Tryd.prog 64 lseR b n (.map S) ∧ S.Perm (L.map entL)
  nd : L.Pairwise (fun x y => ¬ (x.t = y.t ∧ x.a = y.a))
  sz : ∀ x ∈ L, x.t.size ≤ maxLen ∧ x.a.size ≤ maxLen
theorem TabAt.kept {w w' : World} {b : Nat} {L : List Lse} {row : Option Nat} (h : TabAt w b L) (hg : w.grownBy w' row) (hne : some b ≠ row) : TabAt w' b L := by
  obtain ⟨⟨n, S, h1, h2⟩, h3, h4⟩ := h
  exact ⟨⟨n, S, h1.kept hg hne, h2⟩, h3, h4⟩
theorem TabAt.perm {w : World} {b : Nat} {L L' : List Lse} (h : TabAt w b L) (hp : L.Perm L') : TabAt w b L' := by
  obtain ⟨⟨n, S, h1, h2⟩, h3, h4⟩ := h
  exact ⟨⟨n, S, h1, h2.trans (hp.map _)⟩, (hp.pairwise_iff (fun {x y} hne e => hne ⟨e.1.symm, e.2.symm⟩)).1 h3, fun x hx => h4 x (hp.mem_iff.2 hx)⟩
theorem TabAt.lt {w : World} {b : Nat} {L : List Lse} (h : TabAt w b L) : b < w.heap.size := by
  obtain ⟨⟨n, S, h1, _⟩, _, _⟩ := h
  exact h1.lt
theorem TabAt.made (w : World) : TabAt (w.alloc (.map #[] 0)) w.heap.size [] :=
  ⟨⟨0, [], World.ownsMap_made w _ _ _, .refl _⟩, .nil, fun x hx => by cases hx⟩
theorem TabAt.len {w : World} {b : Nat} {L : List Lse} (h : TabAt w b L) (ty : TypeId) : (Builtin.len_ #[58] ty #[.map (some b)]).run Tryd.prog w = .ok (.int .i64 L.length) w := by
  obtain ⟨⟨n, S, h1, h2⟩, _, _⟩ := h
  have e := h1.len Tryd.underlying58 ty
  have hl : Maps.size (DataW.map S) = L.length := by
    show S.length = _
    rw [h2.length_eq, List.length_map]
  rw [hl] at e
  exact e
theorem key_inj {t a t' a' : ByteArray} (ht : t.size ≤ maxLen) (ha : a.size ≤ maxLen) (ht' : t'.size ≤ maxLen) (ha' : a'.size ≤ maxLen) (h : kBytes t a = kBytes t' a') : t = t' ∧ a = a' :=
  nameV_inj (nameKeyed.inj (key_of t a ht ha) (h ▸ key_of t' a' ht' ha'))
theorem lseZero (w : World) : (zeroValue 29).run Tryd.prog w = .ok (lseV lse0) w := by kernel_rfl
/-- 'x, is := t.l[name]'. -/
theorem TabAt.look {w : World} {b : Nat} {L : List Lse} (h : TabAt w b L) (t a : ByteArray) (ht : t.size ≤ maxLen) (ha : a.size ≤ maxLen) :
    (∃ x ∈ L, x.t = t ∧ x.a = a ∧ (Instr.lookup 58 (.map (some b)) (nameV t a) true).run Tryd.prog w = .ok (.tuple #[lseV x, .bool true]) w) ∨
    ((∀ x ∈ L, ¬ (x.t = t ∧ x.a = a)) ∧ (Instr.lookup 58 (.map (some b)) (nameV t a) true).run Tryd.prog w = .ok (.tuple #[lseV lse0, .bool false]) w) := by
  obtain ⟨⟨n, S, ⟨es, clock, hb, F, hs, hD⟩, hp⟩, hnd, hsz⟩ := h
  have hD := DataW.map.inj hD
  have hmem : ∀ p, p ∈ es.toList.map (Go.WideElems.rg Tryd.prog 64 lseR) ↔ p ∈ L.map entL := fun p => by
    rw [← hp.mem_iff, hD, mem_sorted]
  rcases Maps.fit_look true nameKeyed Tryd.underlying58 (lseZero w) hb F (key_of t a ht ha) with ⟨hrun, hno, _⟩ | ⟨e0, y, he, hk, hrun, hR, _, _⟩
  · refine .inr ⟨fun x hx ⟨h1, h2⟩ => ?_, by simpa using hrun⟩
    obtain ⟨e, hem, hee⟩ := List.mem_map.1 ((hmem (entL x)).2 (List.mem_map.2 ⟨x, hx, rfl⟩))
    obtain ⟨y, hy⟩ := F.reads e hem
    have hkey := Go.WideElems.rd_key hy
    rw [Go.WideElems.rg_of hy] at hee
    have e1 : y.1 = kBytes x.t x.a := congrArg Prod.fst hee
    rw [e1, h1, h2] at hkey
    exact hno e hem (nameKeyed.inj hkey (key_of t a ht ha))
  · obtain ⟨y0, hy⟩ := F.reads e0 he
    have hkey := Go.WideElems.rd_key hy
    obtain ⟨z, hz, hzd⟩ := Go.WideElems.rd_val hy
    obtain ⟨x, hx, hxe⟩ := List.mem_map.1 ((hmem _).1 (List.mem_map.2 ⟨e0, he, rfl⟩))
    rw [Go.WideElems.rg_of hy] at hxe
    have e1 : kBytes x.t x.a = y0.1 := congrArg Prod.fst hxe
    have e2 : lseD x = y0.2 := congrArg Prod.snd hxe
    rw [hk, ← e1] at hkey
    obtain ⟨h1, h2⟩ := key_inj (hsz x hx).1 (hsz x hx).2 ht ha (Option.some.inj ((key_of t a ht ha).symm.trans hkey)).symm
    obtain ⟨x', hv, hz'⟩ := lseR_inv hz
    have e3 : x = x' := lseD_inj (by rw [e2, hzd, hz'])
    refine .inl ⟨x, hx, h1, h2, ?_⟩
    rw [e3, ← hv]
    simpa using hrun
/-- Is it another name? -/
def notN (t a : ByteArray) (y : Lse) : Bool := !(decide (y.t = t) && decide (y.a = a))
theorem same_key {t a t' a' : ByteArray} (ht : t.size ≤ maxLen) (ha : a.size ≤ maxLen) (ht' : t'.size ≤ maxLen) (ha' : a'.size ≤ maxLen) : (kBytes t a).sameKey (kBytes t' a') = (decide (t = t') && decide (a = a')) := by
  cases hs : (kBytes t a).sameKey (kBytes t' a')
  · by_cases h : t = t' ∧ a = a'
    · obtain ⟨rfl, rfl⟩ := h
      rw [WideAt.sameKey_self (nameKeyed.key (key_of t a ht ha))] at hs
      cases hs
    · symm
      rw [Bool.and_eq_false_iff, decide_eq_false_iff_not, decide_eq_false_iff_not]
      by_cases h1 : t = t'
      · exact .inr (fun h2 => h ⟨h1, h2⟩)
      · exact .inl h1
  · obtain ⟨rfl, rfl⟩ := key_inj ht ha ht' ha' (WideAt.sameKey_eq hs)
    simp
theorem filter_ent {S : List (Lit × DataW Unit)} {L : List Lse} (hp : S.Perm (L.map entL)) (t a : ByteArray) (ht : t.size ≤ maxLen) (ha : a.size ≤ maxLen) (hsz : ∀ x ∈ L, x.t.size ≤ maxLen ∧ x.a.size ≤ maxLen) :
    (S.filter fun p => !p.1.sameKey (kBytes t a)).Perm ((L.filter (notN t a)).map entL) := by
  refine (hp.filter _).trans ?_
  rw [List.filter_map]
  have e : L.filter ((fun p : Lit × DataW Unit => !p.1.sameKey (kBytes t a)) ∘ entL) = L.filter (notN t a) := by
    refine List.filter_congr fun y hy => ?_
    show (!(kBytes y.t y.a).sameKey (kBytes t a)) = _
    rw [same_key (hsz y hy).1 (hsz y hy).2 ht ha]
    rfl
  rw [e]
theorem TabAt.tight {w : World} {b : Nat} {L : List Lse} (h : TabAt w b L) : ∃ S, w.ownsMap Tryd.prog 64 lseR b L.length (.map S) ∧ S.Perm (L.map entL) := by
  obtain ⟨⟨n, S, ⟨es, clock, hb, F, hs, hD⟩, hp⟩, _, _⟩ := h
  refine ⟨S, ⟨es, clock, hb, F, ?_, hD⟩, hp⟩
  have h1 := hp.length_eq
  rw [DataW.map.inj hD, length_sorted, List.length_map, List.length_map] at h1
  simp at h1
  omega
/-- 't.l[name] = x'. -/
theorem TabAt.put {w : World} {b : Nat} {L : List Lse} (h : TabAt w b L) (x : Lse) (ht : x.t.size ≤ maxLen) (ha : x.a.size ≤ maxLen) (hn : L.length < maxLen) :
    ∃ w', (Instr.mapUpdate 58 (.map (some b)) (nameV x.t x.a) (lseV x)).run Tryd.prog w = .ok () w' ∧ TabAt w' b (x :: L.filter (notN x.t x.a)) ∧ w.grownBy w' (some b) := by
  obtain ⟨S, h1, hp⟩ := h.tight
  obtain ⟨w', hrun, h2, h3⟩ := h1.store nameKeyed Tryd.underlying58 hn (key_of x.t x.a ht ha) (lseR_mk x)
  refine ⟨w', hrun, ⟨⟨_, _, h2, ?_⟩, ?_, ?_⟩, h3.grown⟩
  · exact (WideShapes.insert_perm _ _).trans ((filter_ent hp x.t x.a ht ha h.sz).cons _)
  · refine List.pairwise_cons.2 ⟨fun y hy e => ?_, h.nd.filter _⟩
    have := (List.mem_filter.1 hy).2
    unfold notN at this
    simp [e.1, e.2] at this
  · intro y hy
    rcases List.mem_cons.1 hy with rfl | hy
    · exact ⟨ht, ha⟩
    · exact h.sz y (List.mem_filter.1 hy).1
/-- 'delete(t.l, name)'. -/
theorem TabAt.drop {w : World} {b : Nat} {L : List Lse} (h : TabAt w b L) (t a : ByteArray) (ht : t.size ≤ maxLen) (ha : a.size ≤ maxLen) (ty : TypeId) :
    ∃ w', (Builtin.delete_ #[58, 64] ty #[.map (some b), nameV t a]).run Tryd.prog w = .ok (.tuple #[]) w' ∧ TabAt w' b (L.filter (notN t a)) ∧ w.grownBy w' (some b) := by
  obtain ⟨S, h1, hp⟩ := h.tight
  obtain ⟨w', hrun, h2, h3⟩ := h1.drop nameKeyed Tryd.underlying58 (key_of t a ht ha) ty
  exact ⟨w', hrun, ⟨⟨_, _, h2, filter_ent hp t a ht ha h.sz⟩, h.nd.filter _, fun y hy => h.sz y (List.mem_filter.1 hy).1⟩, h3.grown⟩
end Go.Proofs.YtlkgdnmfgcmldaaDoor
