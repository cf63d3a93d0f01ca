/- The table of leases ranged over: which leases are still to come, as a list. -/
import Derived.Test.YtlkgdnmfgcmldaaDoorLea6
import Derived.LoopTactic
namespace Go.Proofs.YtlkgdnmfgcmldaaDoor
open Go.RowKit Go.Spk
open Go.Maps (Keyed)
set_option linter.unusedVariables false
/-- Block b is the table of the leases L; block r is a loop over it; M: the leases that are still to come. -/
def RangeAt (w : World) (b r : Nat) (L M : List Lse) (cnt : Nat) : Prop :=
  ∃ n S left, w.ranges Tryd.prog 64 lseR b r n (.map S) left cnt ∧ S.Perm (L.map entL) ∧ M.Perm (L.filter fun x => left (kBytes x.t x.a)) ∧ L.Pairwise (fun x y => ¬ (x.t = y.t ∧ x.a = y.a)) ∧ ∀ x ∈ L, x.t.size ≤ maxLen ∧ x.a.size ≤ maxLen
section
variable {w w' : World} {b r cnt : Nat} {L M : List Lse}
theorem RangeAt.tab (h : RangeAt w b r L M cnt) : TabAt w b L := by
  obtain ⟨n, S, left, h1, h2, _, h4, h5⟩ := h
  exact ⟨⟨n, S, h1.owns, h2⟩, h4, h5⟩
theorem RangeAt.kept {row : Option Nat} (h : RangeAt w b r L M cnt) (hg : w.grownBy w' row) (hb : some b ≠ row) (hr : some r ≠ row) : RangeAt w' b r L M cnt := by
  obtain ⟨n, S, left, h1, h2⟩ := h
  exact ⟨n, S, left, h1.kept hg hb hr, h2⟩
theorem RangeAt.left_eq (h : RangeAt w b r L M cnt) : w.rangeLeft b r = cnt := by
  obtain ⟨n, S, left, h1, _⟩ := h
  exact h1.left_eq
theorem RangeAt.lt (h : RangeAt w b r L M cnt) : r < w.heap.size := by
  obtain ⟨n, S, left, h1, _⟩ := h
  exact h1.lt
theorem RangeAt.sub (h : RangeAt w b r L M cnt) : ∀ x ∈ M, x ∈ L := by
  obtain ⟨n, S, left, h1, h2, h3, _⟩ := h
  exact fun x hx => (List.mem_filter.1 (h3.mem_iff.1 hx)).1
theorem keys_of {S : List (Lit × DataW Unit)} {D : DataW Unit} {n : Nat} (h : w.ownsMap Tryd.prog 64 lseR b n D) (hD : D = .map S) : S.Pairwise (fun p q => p.1 ≠ q.1) ∧ ∀ p ∈ S, WideAt.IsKeyLit p.1 := by
  obtain ⟨es, rfl, h1, h2⟩ := h.entries nameKeyed
  cases hD
  exact ⟨h1, h2⟩
theorem TabAt.range (h : TabAt w b L) : ∃ w' cnt, (Instr.range 58 (.map (some b))).run Tryd.prog w = .ok (.pointer (some ⟨w.heap.size, 0, none⟩)) w' ∧ RangeAt w' b w.heap.size L L cnt ∧ w.grownBy w' none ∧ w'.heap.size = w.heap.size + 1 := by
  obtain ⟨⟨n, S, h1, h2⟩, h3, h4⟩ := h
  obtain ⟨hk1, hk2⟩ := keys_of h1 rfl
  obtain ⟨w', hrun, hr, hg, hs⟩ := h1.range nameKeyed Tryd.underlying58
  refine ⟨w', _, hrun, ⟨n, S, _, hr, h2, ?_, h3, h4⟩, hg, hs⟩
  rw [List.filter_eq_self.2]
  intro x hx
  have hm : entL x ∈ S := h2.mem_iff.2 (List.mem_map.2 ⟨x, hx, rfl⟩)
  exact List.any_eq_true.2 ⟨entL x, hm, WideAt.sameKey_self (hk2 _ hm)⟩
theorem left_key {n : Nat} {S : List (Lit × DataW Unit)} {left : Lit → Bool} (h : w.ranges Tryd.prog 64 lseR b r n (.map S) left cnt) {kl : Lit} (hk : left kl = true) : ∃ d, (kl, d) ∈ S := by
  obtain ⟨es, clock, since, seen, c0, hb, F, hs, hD, hr, hold, hc, h1, h2, _⟩ := h
  obtain ⟨x, hx, he⟩ := h2 kl hk
  have hD := DataW.map.inj hD
  refine ⟨(Go.WideElems.rg Tryd.prog 64 lseR x).2, ?_⟩
  rw [hD, mem_sorted]
  exact List.mem_map.2 ⟨x, hx, by rw [← he]⟩
theorem RangeAt.next (h : RangeAt w b r L M cnt) (ty : TypeId) :
    (M = [] ∧ (Instr.next (.pointer (some ⟨r, 0, none⟩)) false ty).run Tryd.prog w = .ok (.tuple #[.bool false]) w) ∨
    ∃ x M' w' cnt', M.Perm (x :: M') ∧ (Instr.next (.pointer (some ⟨r, 0, none⟩)) false ty).run Tryd.prog w = .ok (.tuple #[.bool true, nameV x.t x.a, lseV x]) w' ∧ RangeAt w' b r L M' cnt' ∧ cnt' < cnt ∧ w.grownBy w' (some r) ∧ w'.heap.size = w.heap.size ∧
      (Instr.entry (.pointer (some ⟨r, 0, none⟩))).run Tryd.prog w' = .ok (.tuple #[nameV x.t x.a, lseV x]) w' := by
  obtain ⟨n, S, left, h1, h2, h3, h4, h5⟩ := h
  obtain ⟨hk1, hk2⟩ := keys_of h1.owns rfl
  rcases h1.next nameKeyed ty with ⟨_, hl, hrun⟩ | ⟨key, v, kl, y, w', cnt', hkey, hlk, hv, hat, hrun, hr', hlt, hg, hs, hen⟩
  · refine .inl ⟨?_, hrun⟩
    have e : L.filter (fun x => left (kBytes x.t x.a)) = [] := List.filter_eq_nil_iff.2 fun x _ => by simp [hl]
    rw [e] at h3
    exact List.Perm.eq_nil h3
  · obtain ⟨d, hd⟩ := left_key h1 hlk
    obtain ⟨x, hx, he⟩ := List.mem_map.1 (h2.mem_iff.1 hd)
    have e1 : kBytes x.t x.a = kl := congrArg Prod.fst he
    have e2 : lseD x = d := congrArg Prod.snd he
    have hkk : key = nameV x.t x.a := nameKeyed.inj hkey (e1 ▸ key_of x.t x.a (h5 x hx).1 (h5 x hx).2)
    obtain ⟨x', rfl, hy⟩ := lseR_inv hv
    have hy1 : y.1 = d := (hat .nil).symm.trans (WideAt.atKey_mem _ (hk2 _ hd) hk1 hd)
    rw [hy] at hy1
    have ex : x' = x := lseD_inj (hy1.trans e2.symm)
    subst ex
    subst hkk
    have hxl : x' ∈ L.filter (fun x => left (kBytes x.t x.a)) := List.mem_filter.2 ⟨hx, by rw [e1]; exact hlk⟩
    have hf : (L.filter fun x => left (kBytes x.t x.a) && !(kBytes x.t x.a).sameKey kl) = (L.filter fun x => left (kBytes x.t x.a)).filter (notN x'.t x'.a) := by
      rw [List.filter_filter]
      refine List.filter_congr fun z hz => ?_
      rw [← e1, same_key (h5 z hz).1 (h5 z hz).2 (h5 x' hx).1 (h5 x' hx).2, Bool.and_comm]
      rfl
    refine .inr ⟨x', _, w', cnt', ?_, hrun, ⟨n, S, _, hr', h2, List.Perm.refl _, h4, h5⟩, hlt, hg, hs, hen⟩
    rw [hf]
    refine h3.trans ?_
    obtain ⟨l1, l2, hl⟩ := List.append_of_mem hxl
    have hp : (L.filter fun x => left (kBytes x.t x.a)).Pairwise (fun x y => ¬ (x.t = y.t ∧ x.a = y.a)) := h4.filter _
    rw [hl] at hp ⊢
    obtain ⟨_, hp2, hp3⟩ := List.pairwise_append.1 hp
    have hb := (List.pairwise_cons.1 hp2).1
    have f1 : l1.filter (notN x'.t x'.a) = l1 := List.filter_eq_self.2 fun z hz => by
      have := hp3 z hz x' (by simp)
      unfold notN
      cases e1 : decide (z.t = x'.t) <;> cases e2 : decide (z.a = x'.a) <;> simp at *
      exact this e1 e2
    have f2 : l2.filter (notN x'.t x'.a) = l2 := List.filter_eq_self.2 fun z hz => by
      have := hb z hz
      unfold notN
      cases e1 : decide (z.t = x'.t) <;> cases e2 : decide (z.a = x'.a) <;> simp at *
      exact this e1.symm e2.symm
    rw [List.filter_append, List.filter_cons, f1, f2]
    have : notN x'.t x'.a x' = false := by simp [notN]
    rw [this]
    exact List.perm_middle
end
section
variable (w : World) {ops : Array Oper} {rest : List Oper} {o : Oper} {a : Act} {Q : Exit → Act → World → Prop}
/-- 'range m' over the table. -/
theorem wpList_range_tab (hg : o.guard = none) (m : Operand) (hop : o.op = Op.range 58 m) (b : Nat) (L : List Lse) (hm : a.eval m = .map (some b)) (h : TabAt w b L)
    (hK : ∀ w' cnt, RangeAt w' b w.heap.size L L cnt → w.grownBy w' none → w'.heap.size = w.heap.size + 1 → wpList Tryd.prog ops Q rest (a.put o.dst (.pointer (some ⟨w.heap.size, 0, none⟩))) w') :
    wpList Tryd.prog ops Q (o :: rest) a w := by
  refine wpList_plain hg fun K' hK' => ?_
  obtain ⟨w', cnt, hrun, r1, r2, r3⟩ := h.range
  unfold Oper.wp
  simp [execOp, hop, hm, hrun, Result.andThen]
  exact hK' _ _ (hK w' cnt r1 r2 r3)
/-- The step. -/
theorem wpList_next_tab (hg : o.guard = none) (it : Operand) (hop : o.op = Op.next it false) (b r : Nat) (L M : List Lse) (cnt : Nat) (hit : a.eval it = .pointer (some ⟨r, 0, none⟩)) (h : RangeAt w b r L M cnt)
    (hDone : M = [] → wpList Tryd.prog ops Q rest (a.put o.dst (.tuple #[.bool false])) w)
    (hMore : ∀ (x : Lse) (M' : List Lse) (w' : World) (cnt' : Nat), M.Perm (x :: M') → RangeAt w' b r L M' cnt' → cnt' < cnt → w.grownBy w' (some r) → w'.heap.size = w.heap.size →
      (Instr.entry (.pointer (some ⟨r, 0, none⟩))).run Tryd.prog w' = .ok (.tuple #[nameV x.t x.a, lseV x]) w' → wpList Tryd.prog ops Q rest (a.put o.dst (.tuple #[.bool true, nameV x.t x.a, lseV x])) w') :
    wpList Tryd.prog ops Q (o :: rest) a w := by
  refine wpList_plain hg fun K' hK' => ?_
  unfold Oper.wp
  rcases h.next o.type with ⟨h0, hrun⟩ | ⟨x, M', w', cnt', hp, hrun, hr, hlt, hgr, hsz, hen⟩
  · simp [execOp, hop, hit, hrun, Result.andThen]
    exact hK' _ _ (hDone h0)
  · simp [execOp, hop, hit, hrun, Result.andThen]
    exact hK' _ _ (hMore x M' w' cnt' hp hr hlt hgr hsz hen)
end
end Go.Proofs.YtlkgdnmfgcmldaaDoor
