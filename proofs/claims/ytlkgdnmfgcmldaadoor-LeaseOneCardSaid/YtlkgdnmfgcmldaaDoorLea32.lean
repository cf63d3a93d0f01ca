/- The law's step: what a call on both tables is. -/
import Derived.Test.YtlkgdnmfgcmldaaDoorLea29
import Derived.Test.YtlkgdnmfgcmldaaDoorLea31
namespace Go.Proofs.YtlkgdnmfgcmldaaDoor
open Go.RowKit Go.Spk
set_option linter.unusedVariables false
theorem kept_two {w w' : World} {g b n : Nat} {t : TypeId} {cs : Array Value} (h : Whole w n t cs) (hk : Kept2 w w' g b) (h1 : n ≠ g) (h2 : n ≠ b) : Whole w' n t cs := by
  have hi := h.inside
  unfold Whole at *
  rw [hk.block n hi h1 h2]
  exact h
theorem Lows.keptTwo {w w' : World} {B : Nat} {T : TypeId} {v : Value} {L : List Lse} {g b : Nat} (h : Lows w B T v L) (hk : Kept2 w w' g b) (h1 : g < B) (h2 : b < B) : Lows w' B T v L := by
  rcases h.shape with ⟨rfl, rfl⟩ | ⟨q, cap, cur, rfl, hq, hb, h3, h4, h5, h6⟩
  · exact Lows.nil w' B T
  · have hlt := (h.lt q rfl).2
    exact ⟨cellsL_length L, .inr ⟨q, cap, cur, rfl, hq, by rw [hk.block q hlt (by omega) (by omega)]; exact hb, h3, h4, h5, h6⟩⟩
theorem takeM_codeS (nm tot ep : Int) (L : List Lse) (t a : ByteArray) (o now : Int) : (takeM nm tot ep L t a o now).code ≤ 20 := by
  unfold takeM newM
  split
  · split
    · split
      · show 9 ≤ 20; omega
      · show 0 ≤ 20; omega
    · split
      · show 16 ≤ 20; omega
      · split
        · show 7 ≤ 20; omega
        · show 0 ≤ 20; omega
  · show 17 ≤ 20; omega
theorem code_errS (E : Nat → Addr) (c : Nat) (hc : c ≤ 20) (w : World) (hE : Errs w E) : Calls Tryd.prog 12 #[errV E c] w fun e w' => e = .returned (.int .i64 (c : Int)) ∧ w = w' := by
  unfold errV
  by_cases h : c = 0
  · subst h
    rw [if_pos rfl]
    exact (code_nil w).mono fun e w' ⟨h1, h2⟩ => ⟨h1, h2⟩
  · rw [if_neg h]
    exact (code_bare E (c - 1) (by omega) w hE).mono fun e w' ⟨h1, h2⟩ => ⟨by rw [h1]; congr 3; omega, h2⟩
/-- What one call makes of the leases, and of the last epoch. -/
def stepM (n tt l ep : Int) (L : List Lse) (x : Act) : List Lse × Int :=
  if x.k = 1 then (L, ep)
  else if x.k = 2 then ((cancelM L (cutB x.t 70) (cutB x.a 70) x.o).1, ep)
  else if x.k = 3 then (L.map (updL x.o (tickI x.n)), ep)
  else if x.k = 4 then (L.filter (fun y => !isOwn x.o y), ep)
  else if x.k = 5 then (L.filter (fun y => !isOver l (tickI x.n) y), ep)
  else ((takeM n tt ep L (cutB x.t 70) (cutB x.a 70) x.o x.n).L, (takeM n tt ep L (cutB x.t 70) (cutB x.a 70) x.o x.n).ep)
/-- What step holds of both tables and of its own blocks. -/
structure Stepping (w0 w W : World) (g b : Nat) (n tt l ep : Int) (L : List Lse) (re : Int) (B : Nat) (v : Value) (M : List Lse) (x : Act) : Prop where
  hold : Hold w0 W g b n tt l ep L
  list : Lows W B 71 v M
  kept : Kept2 w W g b
  row : Whole W w.heap.size 44 (refC n tt l re v)
  act : Whole W (w.heap.size + 1) 49 (actC x).toArray
  out : Whole W (w.heap.size + 2) 44 (refC 0 0 0 0 (.slice none 0 0))
  far : g < B ∧ b < B ∧ B ≤ w.heap.size
  old : w0.heap.size ≤ w.heap.size
section
variable {w0 w W W' : World} {g b : Nat} {n tt l ep : Int} {L : List Lse} {re : Int} {B : Nat} {v : Value} {M : List Lse} {x : Act}
theorem Stepping.quiet (h : Stepping w0 w W g b n tt l ep L re B v M x) (hb : Below W.heap.size W W') : Stepping w0 w W' g b n tt l ep L re B v M x :=
  ⟨h.hold.quiet hb, h.list.rest hb, h.kept.trans (Kept2.of_below hb g b), h.row.below hb h.row.inside, h.act.below hb h.act.inside, h.out.below hb h.out.inside, h.far, h.old⟩
theorem Stepping.turned {ep' : Int} {L' : List Lse} (h : Stepping w0 w W g b n tt l ep L re B v M x) (hh : Hold w0 W' g b n tt l ep' L') (hk : Kept2 W W' g b) : Stepping w0 w W' g b n tt l ep' L' re B v M x :=
  ⟨hh, h.list.keptTwo hk h.far.1 h.far.2.1, h.kept.trans hk, kept_two h.row hk (by have := h.far; omega) (by have := h.far; omega), kept_two h.act hk (by have := h.far; omega) (by have := h.far; omega), kept_two h.out hk (by have := h.far; omega) (by have := h.far; omega), h.far, h.old⟩
theorem Stepping.left {F : World} {n' tt' l' e' : Int} {v' : Value} (h : Stepping w0 w W g b n tt l ep L re B v M x) (hF : F = W.setCells (w.heap.size + 2) 0 (refC n' tt' l' e' v').toList) : Hold w0 F g b n tt l ep L ∧ Kept2 w F g b ∧ Whole F (w.heap.size + 2) 44 (refC n' tt' l' e' v') ∧ W.grownBy F (some (w.heap.size + 2)) := by
  subst hF
  have hg := only_set (w.heap.size + 2) (refC n' tt' l' e' v').toList 0 W
  have hf := h.far
  have ho := h.old
  exact ⟨h.hold.kept (Kept2.of_only hg (w.heap.size + 2)) (by omega) (by omega) (by omega) (by omega) (by omega) (by omega), h.kept.later hg (by omega), fill_row h.out rfl, hg⟩
theorem Stepping.lt_list {q : Nat} (h : Stepping w0 w W g b n tt l ep L re B v M x) (hq : v.ownBlock = some q) (hw : Lows w B 71 v M) : q < w.heap.size := (hw.lt q hq).2
theorem Stepping.keeps {F : World} {n' tt' l' e' : Int} {v' : Value} {C : World} (h : Stepping w0 w W g b n tt l ep L re B v M x) (hC : C = W.drew) (hF : F = C.setCells (w.heap.size + 2) 0 (refC n' tt' l' e' v').toList) (hw : Lows w B 71 v M) : Lows F B 71 v M := by
  subst hC
  have hd : Lows W.drew B 71 v M := h.list.kept (only_drawn (World.grownBy.refl W none)) (own_or v)
  subst hF
  exact hd.kept (only_set (w.heap.size + 2) _ 0 _) (.inr (fun e => by have := (hw.lt _ e).2; omega))
theorem lows_ne {W : World} {C p : Nat} {v' : Value} {M' : List Lse} {cs : Array Value} (h : Lows W C 71 v' M') (hp : Whole W p 44 cs) : v'.ownBlock = none ∨ v'.ownBlock ≠ some p := by
  rcases h.shape with ⟨rfl, _⟩ | ⟨q, cap, cur, rfl, _, hb, _⟩
  · exact .inl rfl
  · refine .inr (fun e => ?_)
    have e' : q = p := by injection e
    subst e'
    have hp' : W.heap[q]? = some (.cells cs 44 (0, 0)) := hp
    rw [hb] at hp'
    have h2 := Option.some.inj hp'
    injection h2 with _ h3 _
    exact absurd h3 (by decide)
theorem Stepping.lists {F : World} {n' tt' l' e' : Int} {v1 v' : Value} {M' : List Lse} {C : Nat} (h : Stepping w0 w W g b n tt l ep L re B v M x) (hF : F = W.setCells (w.heap.size + 2) 0 (refC n' tt' l' e' v1).toList) (hl : Lows W C 71 v' M') : Lows F C 71 v' M' := by
  subst hF
  exact hl.kept (only_set (w.heap.size + 2) _ 0 _) (lows_ne hl h.out)
theorem sameL_self (L : List Lse) : sameL L L = true := @decide_eq_true _ (Classical.propDecidable _) rfl
theorem isIt_iff (x y : Lse) : isIt x y = true ↔ y.o = x.o ∧ y.t = x.t ∧ y.a = x.a := by
  unfold isIt; simp
theorem cancel_yes {L : List Lse} (hA : Asc L) {t a : ByteArray} {o : Int} {y : Lse} (hlk : lookL L t a = some y) (ho : y.o = o) :
    cancelM L t a o = (L.filter (notN t a), y, 0) ∧ L.filter (isIt ⟨t, a, o, 0, 0⟩) = [y] ∧ L.filter (fun z => !(isIt ⟨t, a, o, 0, 0⟩) z) = L.filter (notN t a) := by
  obtain ⟨hy, ht, ha⟩ := lookL_some hlk
  have hu : ∀ z ∈ L, z.t = t → z.a = a → z = y := fun z hz h1 h2 => same_of_name hA hz hy (h1.trans ht.symm) (h2.trans ha.symm)
  refine ⟨by unfold cancelM; rw [hlk]; exact if_pos ho, ?_, ?_⟩
  · obtain ⟨L1, L2, rfl⟩ := List.append_of_mem hy
    have hn := hA.names
    rw [List.pairwise_append] at hn
    obtain ⟨_, h2, h3⟩ := hn
    rw [List.pairwise_cons] at h2
    have e1 : L1.filter (isIt ⟨t, a, o, 0, 0⟩) = [] := List.filter_eq_nil_iff.2 (fun z hz hi => by
      obtain ⟨_, k2, k3⟩ := (isIt_iff _ _).1 hi
      exact h3 z hz y (List.mem_cons_self) ⟨k2.trans ht.symm, k3.trans ha.symm⟩)
    have e2 : L2.filter (isIt ⟨t, a, o, 0, 0⟩) = [] := List.filter_eq_nil_iff.2 (fun z hz hi => by
      obtain ⟨_, k2, k3⟩ := (isIt_iff _ _).1 hi
      exact h2.1 z hz ⟨ht.trans k2.symm, ha.trans k3.symm⟩)
    have e3 : isIt ⟨t, a, o, 0, 0⟩ y = true := (isIt_iff _ _).2 ⟨ho, ht, ha⟩
    rw [List.filter_append, List.filter_cons, e1, e2, e3]
    rfl
  · refine List.filter_congr (fun z hz => ?_)
    by_cases h : z.t = t ∧ z.a = a
    · have e := hu z hz h.1 h.2
      have e3 : isIt ⟨t, a, o, 0, 0⟩ z = true := (isIt_iff _ _).2 ⟨by rw [e]; exact ho, h.1, h.2⟩
      rw [e3]; unfold notN; simp [h.1, h.2]
    · have e3 : isIt ⟨t, a, o, 0, 0⟩ z = false := by
        cases hq : isIt ⟨t, a, o, 0, 0⟩ z with
        | false => rfl
        | true => exact absurd ((isIt_iff _ _).1 hq).2 h
      rw [e3]; unfold notN
      by_cases h1 : z.t = t
      · have h2 : ¬ z.a = a := fun h2 => h ⟨h1, h2⟩
        simp [h2]
      · simp [h1]
theorem cancel_no {L : List Lse} {t a : ByteArray} {o : Int} (hA : Asc L) (h : ¬ ∃ y, lookL L t a = some y ∧ y.o = o) :
    cancelM L t a o = (L, lse0, 8) ∧ L.filter (isIt ⟨t, a, o, 0, 0⟩) = [] ∧ L.filter (fun z => !(isIt ⟨t, a, o, 0, 0⟩) z) = L := by
  have hn : ∀ z ∈ L, isIt ⟨t, a, o, 0, 0⟩ z = false := fun z hz => by
    cases hq : isIt ⟨t, a, o, 0, 0⟩ z with
    | false => rfl
    | true =>
      obtain ⟨k1, k2, k3⟩ := (isIt_iff _ _).1 hq
      have hl := lookL_mem hA hz
      rw [show z.t = t from k2, show z.a = a from k3] at hl
      exact absurd ⟨z, hl, k1⟩ h
  refine ⟨?_, List.filter_eq_nil_iff.2 (fun z hz => by rw [hn z hz]; decide), List.filter_eq_self.2 (fun z hz => by rw [hn z hz]; rfl)⟩
  unfold cancelM
  cases hl : lookL L t a with
  | none => rfl
  | some y =>
    have : ¬ y.o = o := fun ho => h ⟨y, hl, ho⟩
    exact if_neg this
/-- What a step gives back. -/
structure StepP (w0 w : World) (g b : Nat) (n tt l : Int) (B : Nat) (r : List Lse × Int) (en : Ending) (w' : World) : Prop where
  ret : ∃ v', en = .returned (.tuple #[refV n tt l r.2 v', .bool true]) ∧ Lows w' B 71 v' r.1
  hold : Hold w0 w' g b n tt l r.2 r.1
  kept : Kept2 w w' g b
structure StepQ (w0 w : World) (g b : Nat) (n tt l : Int) (r : List Lse × Int) (en : Ending) (w' : World) : Prop where
  ret : ∃ v' bb, en = .returned (.tuple #[v', .bool bb])
  hold : Hold w0 w' g b n tt l r.2 r.1
  kept : Kept2 w w' g b
end
end Go.Proofs.YtlkgdnmfgcmldaaDoor
