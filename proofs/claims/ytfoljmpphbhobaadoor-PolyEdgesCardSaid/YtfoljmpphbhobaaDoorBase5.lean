/- A region that draws its order: operations that yield their values in every world stand ahead of a forced tail. -/
import Derived.Test.YtfoljmpphbhobaaDoorBase4
import Derived.StillTail
import Derived.BigQuiet
namespace Go.Spk
open Go.RowKit
theorem news_whole {w : World} {g : Nat} {t : TypeId} {k : IntKind} {l : List Int} (h : Whole w g t (rowI k l)) : ∀ j, j < l.length → w.cell? ((⟨g, 0, none⟩ : Addr).add j) = some (.int k (ix l j)) :=
  fun j hj => by rw [Addr.add_mid, Nat.zero_add]; exact h.int j hj
theorem Own.news {w : World} {B : Nat} {e : TypeId} {k : IntKind} {g n cap : Nat} {xs : List Int} (h : Own w B e k g n cap xs) : ∀ j, j < xs.length → w.cell? ((⟨g, 0, none⟩ : Addr).add j) = some (.int k (ix xs j)) :=
  fun j hj => by rw [Addr.add_mid, Nat.zero_add]; exact h.cell j (by rw [← h.len]; exact hj)
/-- An operation that yields a value whenever it is run to its end. -/
def isVal (o : Oper) : Bool :=
  match o.op with
  | .move _ | .assign _ | .pick .. | .binOp .. | .unOp .. | .convert .. | .slice .. | .fieldAddr .. | .field .. | .indexAddr .. | .index .. | .extract .. | .build .. | .makeInterface .. | .load .. => true
  | _ => false
section
variable {P : Program} {ops : Array Oper} {Q : Exit → Act → World → Prop} {md : Region.Mode}
theorem value_of_andThen {r : Result Value} {f : Value → World → Result Next} (hf : f = fun a w => .ok (.value a) w) {w : World} {v : Value} (h : Oper.quietUpon P (fun _ => True) w v (r.andThen f)) :
    r.andThen f = .ok (.value v) w := by
  subst hf
  cases r with
  | ok u w' => simp only [Result.andThen_ok, Oper.quietUpon] at h ⊢; rw [h.1, h.2]
  | halt x w' => simp [Result.andThen, Oper.quietUpon] at h
theorem val_of_v (s : Sem Value) {u : Next} {w w' : World} (hr : (do pure (Next.value (← s)) : Sem Next).run P w = .ok u w') : ∃ y, u = .value y := by
  simp only [Sem.run_bind] at hr
  cases hq : s.run P w with
  | ok y w2 => rw [hq] at hr; simp only [Result.andThen_ok, Sem.run_pure, Result.ok.injEq] at hr; exact ⟨_, hr.1.symm⟩
  | halt x w2 => rw [hq] at hr; simp [Result.andThen] at hr
theorem val_of_pick (s : Sem Bool) (x y : Value) {u : Next} {w w' : World} (hr : (do pure (Next.value (if ← s then x else y)) : Sem Next).run P w = .ok u w') : ∃ y, u = .value y := by
  simp only [Sem.run_bind] at hr
  cases hq : s.run P w with
  | ok y w2 => rw [hq] at hr; simp only [Result.andThen_ok, Sem.run_pure, Result.ok.injEq] at hr; exact ⟨_, hr.1.symm⟩
  | halt x w2 => rw [hq] at hr; simp [Result.andThen] at hr
theorem yields_of_quiet {o : Oper} {a : Act} {v : Value} (hv : isVal o = true) (h : ∀ w, True → o.quietAt P a (fun _ => True) w v) : ∀ w, (execOp a.eval o).run P w = .ok (.value v) w := by
  intro w
  have hq := h w trivial
  unfold Oper.quietAt at hq
  have key : ∀ u w', (execOp a.eval o).run P w = .ok u w' → ∃ y, u = .value y := by
    intro u w' hr
    unfold isVal at hv
    unfold execOp at hr
    cases ho : o.op <;> simp only [ho] at hv hr <;> first | (cases hv; done) | skip
    all_goals first
      | (exact val_of_v _ hr)
      | (simp only [Sem.run_pure, Result.ok.injEq] at hr; exact ⟨_, hr.1.symm⟩)
      | (exact val_of_pick _ _ _ hr)
  cases hr : (execOp a.eval o).run P w with
  | ok u w' =>
    obtain ⟨y, rfl⟩ := key u w' hr
    rw [hr] at hq
    simp only [Oper.quietUpon] at hq
    rw [hq.1, hq.2]
  | halt x w' => rw [hr] at hq; simp [Oper.quietUpon] at hq
/-- n heads, each of which may come first, in the text's order; then a forced tail. -/
def pureTailB (ops : Array Oper) (n : Nat) : Bool :=
  Region.noSelect ops && decide (n < ops.size) && Region.lexHead .any ops (ops.size - n) n 0 (Array.replicate ops.size false) && (ops.toList.take n).all isVal
theorem wpAny_pure {g : Nat} (hs : Region.noSelect ops = true) (hQ : ∀ c (a : Act) (d : Option Tmp) (v : Value) (w : World), Q (.panic c) (a.put d v) w → Q (.panic c) a w)
    {Lq : Act → Prop} {w : World} (hL : ∀ listed a k, Region.seqB .any ops g k listed = true → k + g = ops.size → Lq a → wpAny P .any ops Q g listed a w) :
    ∀ (l : List Oper) (k : Nat) (listed : Array Bool) (a : Act), (∀ j, j < l.length → l[j]? = ops[k + j]?) → k + l.length + g = ops.size → l.all isVal = true →
      Region.lexHead .any ops g l.length k listed = true → wpQuiet P ops (fun _ => True) Lq l a → wpAny P .any ops Q (l.length + g) listed a w
  | [], k, listed, a, _, hk, _, hB, h => by
    rw [List.length_nil, Nat.zero_add]
    exact hL listed a k (by simpa [Region.lexHead] using hB) (by simpa using hk) h
  | o :: l, k, listed, a, hl, hk, hv, hB, h => by
    have h0 : ops[k]? = some o := by simpa using (hl 0 (by simp)).symm
    simp only [List.length_cons, Region.lexHead, Bool.and_eq_true] at hB
    obtain ⟨⟨hr, hf⟩, hB'⟩ := hB
    simp only [List.all_cons, Bool.and_eq_true] at hv
    have hqo : qOp P ops (fun _ => True) k (wpQuiet P ops (fun _ => True) Lq l) a := by unfold qOp; simp only [h0]; exact h
    obtain ⟨v, hy, hK⟩ := yieldsIn_of_qOp h0 hqo
    have hy' : Yields P ops o v a := by
      rcases hy with ⟨hw, hh⟩ | hh
      · exact .inl ⟨hw, yields_of_quiet hv.1 hh⟩
      · exact .inr hh
    have := wpAny_pure hs hQ hL l (k + 1) (listed.setIfInBounds k true) (a.put o.dst v) (fun j hj => by have := hl (j + 1) (by simp; omega); simpa [Nat.add_assoc, Nat.add_comm 1 j] using this)
      (by simp only [List.length_cons] at hk; omega) hv.2 hB' hK
    rw [List.length_cons, show l.length + 1 + g = (l.length + g) + 1 by omega]
    exact wpAny_take h0 hs hf hr (fun c a w h => hQ c a o.dst v w h) hy' this
/-- A region that draws its order: n operations that yield their values in every world, walked in the text's order, then the tail, as a plain list. -/
theorem wp_region_pure_tail {id : Nat} {a : Act} {w : World} {l : List Oper} (n : Nat) (hm : P.follows .mixedOrders = true) (hB : pureTailB l.toArray n = true)
    (hQ : ∀ c (a : Act) (d : Option Tmp) (v : Value) (w : World), Q (.panic c) (a.put d v) w → Q (.panic c) a w)
    (h : wpQuiet P l.toArray (fun _ => True) (fun a' => wpList P l.toArray Q (l.drop n) a' w.drew) (l.take n) a) : (Code.region id l.toArray true).wp P Q a w := by
  simp only [pureTailB, Bool.and_eq_true, decide_eq_true_eq] at hB
  obtain ⟨⟨⟨hs, hn⟩, hlex⟩, hval⟩ := hB
  have hn' : n < l.length := by simpa using hn
  have htl : (l.take n).length = n := by simp; omega
  have hdl : (l.drop n).length = l.toArray.size - n := by simp
  refine wp_region_any hm ?_
  have H := wpAny_pure (P := P) (Q := Q) (ops := l.toArray) (g := l.toArray.size - n) (w := w.drew) hs hQ (Lq := fun a' => wpList P l.toArray Q (l.drop n) a' w.drew)
    (fun listed a' k hseq hk hw => by
      have hk' : k = n := by have : l.toArray.size = l.length := by simp
                             omega
      subst hk'
      have := wpAny_of_seq (md := .any) (Q' := Q) (l.drop k) k listed a' w.drew (fun j => by simp [List.getElem?_drop]) (by rw [hdl]; exact hseq) hw
      rwa [hdl] at this)
    (l.take n) 0 (Array.replicate l.toArray.size false) a (fun j hj => by
      have hj' : j < n := by rw [htl] at hj; exact hj
      simp [hj']) (by rw [htl]; have : l.toArray.size = l.length := by simp
                      omega) (by simpa using hval) (by rw [htl]; exact hlex) h
  rw [htl, show n + (l.toArray.size - n) = l.toArray.size by omega] at H
  exact H
end
end Go.Spk
