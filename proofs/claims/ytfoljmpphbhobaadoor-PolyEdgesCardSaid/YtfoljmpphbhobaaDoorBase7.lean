/- A region that draws its order: operations that yield their value in every world of a class stand ahead of a forced tail, whose operations move a state of our own along (a block made and filled): stated over any program. -/
import Derived.Test.YtfoljmpphbhobaaDoorBase6
import Derived.Test.YtfoljmpphbhobaaDoorBase2
import Derived.StillTail
namespace Go.Spk
open Go.RowKit
section
variable {P : Program} {ops : Array Oper} {md : Region.Mode} {S : Type} {Cl : S → World → Prop}
def loudUpon (P : Program) (Cl : S → World → Prop) (K : Value → S → Prop) : Result Next → Prop
  | .ok (.value u) w' => ∃ s', Cl s' w' ∧ K u s'
  | .ok .skip w' => ∃ s', Cl s' w' ∧ K undef s'
  | .ok (.enter f args) w' => Calls P f args w' (fun e w'' => ∃ v s', e = .returned v ∧ Cl s' w'' ∧ K v s')
  | _ => False
theorem loudUpon_mono {K K' : Value → S → Prop} (h : ∀ v s, K v s → K' v s) {r : Result Next} (hr : loudUpon P Cl K r) : loudUpon P Cl K' r := by
  cases r with
  | ok n w' =>
    cases n <;> simp only [loudUpon] at hr ⊢
    case value u => obtain ⟨s', h1, h2⟩ := hr; exact ⟨s', h1, h _ _ h2⟩
    case skip => obtain ⟨s', h1, h2⟩ := hr; exact ⟨s', h1, h _ _ h2⟩
    case enter f args => exact hr.mono fun e w'' ⟨v, s', h0, h1, h2⟩ => ⟨v, s', h0, h1, h _ _ h2⟩
  | halt x w' => simp only [loudUpon] at hr
def lOp (P : Program) (ops : Array Oper) (Cl : S → World → Prop) (i : Nat) (K : Act → S → Prop) (a : Act) (s : S) : Prop :=
  match ops[i]? with
  | none => K a s
  | some o => if Region.wanted o (yielded ops a.tmps) then ∀ w, Cl s w → loudUpon P Cl (fun v s' => K (a.put o.dst v) s') ((execOp a.eval o).run P w) else K (a.put o.dst undef) s
theorem lOp_mono {i : Nat} {a : Act} {s : S} {K K' : Act → S → Prop} (h : ∀ a s, K a s → K' a s) (hh : lOp P ops Cl i K a s) : lOp P ops Cl i K' a s := by
  unfold lOp at *
  split
  · exact h _ _ (by simpa [*] using hh)
  · rename_i o ho
    simp only [ho] at hh
    split
    · rename_i hw; simp only [hw, if_true] at hh; exact fun w hw' => loudUpon_mono (fun v s' => h _ _) (hh w hw')
    · rename_i hw; simp only [hw] at hh; exact h _ _ hh
/-- Whatever order is picked from here on. -/
def wpAnyG (P : Program) (md : Region.Mode) (ops : Array Oper) (Cl : S → World → Prop) (Q : Act → S → Prop) : Nat → Array Bool → Act → S → Prop
  | 0, listed, a, s => Region.ready md ops listed = [] ∧ Q a s
  | fuel + 1, listed, a, s =>
    (Region.ready md ops listed = [] → Q a s) ∧
    ∀ i ∈ Region.ready md ops listed, lOp P ops Cl i (wpAnyG P md ops Cl Q fuel (listed.setIfInBounds i true)) a s
theorem wpOp_of_lOp {i : Nat} {a : Act} {s : S} {K : Act → S → Prop} {K' : Act → World → Prop} {Q' : Exit → Act → World → Prop} {w : World} (hC : Cl s w) (h : ∀ a s' w', Cl s' w' → K a s' → K' a w') (hh : lOp P ops Cl i K a s) : wpOp P ops Q' i K' a w := by
  unfold lOp at hh
  unfold wpOp
  split
  · rename_i ho; simp only [ho] at hh; exact h _ _ _ hC hh
  · rename_i o ho
    simp only [ho] at hh
    split
    · rename_i hw
      simp only [hw, if_true] at hh
      refine .inl ?_
      have h3 := hh w hC
      unfold Oper.wp
      generalize (execOp a.eval o).run P w = r at *
      cases r with
      | ok n w' =>
        cases n <;> simp only [loudUpon] at h3 <;> simp only [Oper.upon]
        case value u => obtain ⟨s', h1, h2⟩ := h3; exact h _ _ _ h1 h2
        case skip => obtain ⟨s', h1, h2⟩ := h3; exact h _ _ _ h1 h2
        case enter f args => exact h3.mono fun e w'' ⟨v, s', h0, h1, h2⟩ => by subst h0; exact h _ _ _ h1 h2
      | halt x w' => simp only [loudUpon] at h3
    · rename_i hw; simp only [hw] at hh; exact h _ _ _ hC hh
theorem wpAny_of_G {Q : Act → S → Prop} {Q' : Exit → Act → World → Prop} (hQ : ∀ a s w, Cl s w → Q a s → Q' .normal a w) : ∀ (fuel : Nat) (listed : Array Bool) (a : Act) (s : S) (w : World), Cl s w →
    wpAnyG P md ops Cl Q fuel listed a s → wpAny P md ops Q' fuel listed a w
  | 0, _, _, _, _, hw, h => ⟨h.1, hQ _ _ _ hw h.2⟩
  | fuel + 1, _, _, _, _, hw, h => ⟨fun h0 => hQ _ _ _ hw (h.1 h0), fun i hi => wpOp_of_lOp hw (fun a' s' w' hw' => wpAny_of_G hQ fuel _ a' s' w' hw') (h.2 i hi)⟩
/-- In every state, in every world of its class, the operation leaves v, and a world of the same class. -/
def YieldsG (P : Program) (ops : Array Oper) (Cl : S → World → Prop) (o : Oper) (v : Value) (a : Act) : Prop :=
  (Region.wanted o (yielded ops a.tmps) = true ∧ ∀ s w, Cl s w → o.quietAt P a (Cl s) w v) ∨
  (Region.wanted o (yielded ops a.tmps) = false ∧ v = undef)
theorem YieldsG.lOp {i : Nat} {o : Oper} {v : Value} {a : Act} {s : S} (hi : ops[i]? = some o) (hy : YieldsG P ops Cl o v a) {K : Act → S → Prop} (h : K (a.put o.dst v) s) : lOp P ops Cl i K a s := by
  unfold Go.Spk.lOp
  simp only [hi]
  rcases hy with ⟨hw, hv⟩ | ⟨hw, rfl⟩
  · simp only [hw, if_true]
    intro w hC
    have h3 := hv s w hC
    unfold Oper.quietAt at h3
    generalize (execOp a.eval o).run P w = r at *
    cases r with
    | ok n w' =>
      cases n <;> simp only [Oper.quietUpon] at h3 <;> simp only [loudUpon]
      case value u => obtain ⟨e1, e2⟩ := h3; subst e1 e2; exact ⟨s, hC, h⟩
      case skip => obtain ⟨e1, e2⟩ := h3; subst e1 e2; exact ⟨s, hC, h⟩
      case enter f args => obtain ⟨e1, hc⟩ := h3; subst e1; exact hc.mono fun e w'' ⟨he, hw''⟩ => ⟨v, s, he, hw'', h⟩
    | halt x w' => simp only [Oper.quietUpon] at h3
  · simp only [hw, Bool.false_eq_true, if_false]; exact h
theorem YieldsG.of_same {o : Oper} {v : Value} {a a' : Act} (hy : YieldsG P ops Cl o v a) (he : execOp a'.eval o = execOp a.eval o)
    (hw : Region.wanted o (yielded ops a'.tmps) = Region.wanted o (yielded ops a.tmps)) : YieldsG P ops Cl o v a' := by
  unfold YieldsG Oper.quietAt at *
  rw [he, hw]
  exact hy
theorem lOp_put {j : Nat} {oi oj : Oper} {v : Value} (hj : ops[j]? = some oj) (hap : oi.apart ops oj = true)
    (hsi : ∀ cs b, oi.op ≠ .select cs b) (hsj : ∀ cs b, oj.op ≠ .select cs b) {K : Act → S → Prop} {a : Act} {s : S}
    (hy : YieldsG P ops Cl oi v a) (h : lOp P ops Cl j K (a.put oi.dst v) s) :
    lOp P ops Cl j (fun a' s' => YieldsG P ops Cl oi v a' ∧ K (a'.put oi.dst v) s') a s := by
  obtain ⟨h1, h2, h3⟩ := Oper.apart_spec hap
  have keep : ∀ (a : Act), YieldsG P ops Cl oi v a → ∀ u, YieldsG P ops Cl oi v (a.put oj.dst u) := fun a hy u =>
    hy.of_same (execOp_put oi hsi a oj.dst u h3) (wanted_put oi a oj.dst u h3)
  unfold lOp at *
  simp only [hj] at *
  rw [wanted_put oj a oi.dst v h1] at h
  split
  · rename_i hw
    simp only [hw, if_true] at h
    intro w hC
    have h4 := h w hC
    rw [execOp_put oj hsj a oi.dst v h1] at h4
    exact loudUpon_mono (fun u s' hk => ⟨keep a hy u, by rw [← Act.put_comm a v u h2]; exact hk⟩) h4
  · rename_i hw
    simp only [hw] at h
    exact ⟨keep a hy _, by rw [← Act.put_comm a v undef h2]; exact h⟩
theorem wpAnyG_first {Q : Act → S → Prop} {i : Nat} {oi : Oper} {v : Value} (hi : ops[i]? = some oi) (hsel : ∀ (j : Nat) (o : Oper) cs b, ops[j]? = some o → o.op ≠ .select cs b) :
    ∀ (fuel : Nat) (listed : Array Bool) (a : Act) (s : S),
      (∀ j oj, ops[j]? = some oj → j ≠ i → listed.getD j true = false → (∀ e ∈ oj.after, Region.binds md e = true → e.on ≠ i) → oi.apart ops oj = true) →
      i ∈ Region.ready md ops listed → YieldsG P ops Cl oi v a →
      wpAnyG P md ops Cl Q fuel (listed.setIfInBounds i true) (a.put oi.dst v) s → wpAnyG P md ops Cl Q (fuel + 1) listed a s := by
  intro fuel
  induction fuel with
  | zero =>
    intro listed a s _ hr hy H
    refine ⟨fun h => (by rw [h] at hr; cases hr), fun j hj => ?_⟩
    by_cases hji : j = i
    · subst hji; exact hy.lOp hi H
    · have := ready_mono hj hji
      rw [H.1] at this
      cases this
  | succ fuel ih =>
    intro listed a s hfree hr hy H
    refine ⟨fun h => (by rw [h] at hr; cases hr), fun j hj => ?_⟩
    by_cases hji : j = i
    · subst hji; exact hy.lOp hi H
    · have h1 := H.2 j (ready_mono hj hji)
      obtain ⟨hjun, oj, hoj, hall⟩ := mem_ready.1 hj
      have hnot : ∀ e ∈ oj.after, Region.binds md e = true → e.on ≠ i := fun e he hb heq => by
        have h1 := hall e he hb
        have h0 := (mem_ready.1 hr).1
        rw [heq] at h1
        rcases Nat.lt_or_ge i listed.size with h' | h'
        · simp [h'] at h0 h1; rw [h0] at h1; cases h1
        · simp [Array.getElem?_eq_none h'] at h1
      have h2 := lOp_put hoj (hfree j oj hoj hji hjun hnot) (fun cs b => hsel i oi cs b hi) (fun cs b => hsel j oj cs b hoj) hy h1
      have hfree' : ∀ k ok, ops[k]? = some ok → k ≠ i → (listed.setIfInBounds j true).getD k true = false →
          (∀ e ∈ ok.after, Region.binds md e = true → e.on ≠ i) → oi.apart ops ok = true := fun k ok hk hki hun hno => by
        refine hfree k ok hk hki ?_ hno
        by_cases hjk : j = k
        · subst hjk; exact hjun
        · rw [getD_set_ne true hjk] at hun; exact hun
      refine lOp_mono (fun a' s' h3 => ih (listed.setIfInBounds j true) a' s' hfree' (ready_mono hr (Ne.symm hji)) h3.1 ?_) h2
      rw [Array.setIfInBounds_comm _ _ hji]
      exact h3.2
/-- One operation in every world of every state's class. -/
def quietG (P : Program) (o : Oper) (a : Act) (Cl : S → World → Prop) (next : Act → Prop) : Prop := ∃ v, (∀ s w, Cl s w → o.quietAt P a (Cl s) w v) ∧ next (a.put o.dst v)
def wpHead (P : Program) (ops : Array Oper) (Cl : S → World → Prop) (Q : Act → Prop) : List Oper → Act → Prop
  | [], a => Q a
  | o :: rest, a => if Region.wanted o (yielded ops a.tmps) then quietG P o a Cl (wpHead P ops Cl Q rest) else wpHead P ops Cl Q rest (a.put o.dst undef)
def wpLoud (P : Program) (ops : Array Oper) (Cl : S → World → Prop) (Q : Act → S → Prop) : List Oper → Act → S → Prop
  | [], a, s => Q a s
  | o :: rest, a, s => if Region.wanted o (yielded ops a.tmps) then ∀ w, Cl s w → loudUpon P Cl (fun v s' => wpLoud P ops Cl Q rest (a.put o.dst v) s') ((execOp a.eval o).run P w) else wpLoud P ops Cl Q rest (a.put o.dst undef) s
theorem wpAnyG_of_seq {Q : Act → S → Prop} : ∀ (l : List Oper) (k : Nat) (listed : Array Bool) (a : Act) (s : S), (∀ j, l[j]? = ops[k + j]?) →
    Region.seqB md ops l.length k listed = true → wpLoud P ops Cl Q l a s → wpAnyG P md ops Cl Q l.length listed a s
  | [], _, _, _, _, _, hB, h => ⟨by simpa [Region.seqB] using hB, h⟩
  | o :: l, k, listed, a, s, hl, hB, h => by
    have h0 : ops[k]? = some o := by simpa using (hl 0).symm
    simp only [List.length_cons, Region.seqB, Bool.and_eq_true, decide_eq_true_eq] at hB
    refine ⟨fun h1 => (by rw [hB.1] at h1; cases h1), fun i hi => ?_⟩
    rw [hB.1] at hi
    have hik : i = k := by simpa using hi
    subst hik
    have hw : lOp P ops Cl i (wpLoud P ops Cl Q l) a s := by unfold lOp; simp only [h0]; exact h
    exact lOp_mono (fun a' s' h' => wpAnyG_of_seq l (i + 1) _ a' s' (fun j => by have := hl (j + 1); simpa [Nat.add_assoc, Nat.add_comm 1 j] using this) hB.2 h') hw
theorem wpAnyG_lex {Q : Act → S → Prop} {g : Nat} {L : Act → S → Prop} (hs : Region.noSelect ops = true) (s : S)
    (hL : ∀ listed a k, Region.seqB md ops g k listed = true → k + g = ops.size → L a s → wpAnyG P md ops Cl Q g listed a s) :
    ∀ (l : List Oper) (k : Nat) (listed : Array Bool) (a : Act), (∀ j, j < l.length → l[j]? = ops[k + j]?) → k + l.length + g = ops.size →
      Region.lexHead md ops g l.length k listed = true → wpHead P ops Cl (fun a' => L a' s) l a → wpAnyG P md ops Cl Q (l.length + g) listed a s
  | [], k, listed, a, _, hk, hB, h => by
    rw [List.length_nil, Nat.zero_add]
    exact hL listed a k (by simpa [Region.lexHead] using hB) (by simpa using hk) h
  | o :: l, k, listed, a, hl, hk, hB, h => by
    have h0 : ops[k]? = some o := by simpa using (hl 0 (by simp)).symm
    simp only [List.length_cons, Region.lexHead, Bool.and_eq_true] at hB
    obtain ⟨⟨hr, hf⟩, hB'⟩ := hB
    have hy : ∃ v, YieldsG P ops Cl o v a ∧ wpHead P ops Cl (fun a' => L a' s) l (a.put o.dst v) := by
      simp only [wpHead] at h
      by_cases hw : Region.wanted o (yielded ops a.tmps) = true
      · rw [if_pos hw] at h
        obtain ⟨v, h1, h2⟩ := h
        exact ⟨v, .inl ⟨hw, h1⟩, h2⟩
      · rw [if_neg hw] at h
        exact ⟨undef, .inr ⟨by simpa using hw, rfl⟩, h⟩
    obtain ⟨v, hy, hK⟩ := hy
    have := wpAnyG_lex hs s hL l (k + 1) (listed.setIfInBounds k true) (a.put o.dst v) (fun j hj => by have := hl (j + 1) (by simp; omega); simpa [Nat.add_assoc, Nat.add_comm 1 j] using this)
      (by simp only [List.length_cons] at hk; omega) hB' hK
    rw [List.length_cons, show l.length + 1 + g = (l.length + g) + 1 by omega]
    exact wpAnyG_first h0 (Region.noSelect_spec hs) (l.length + g) listed a s (Region.free_spec h0 hf) (by simpa using hr) hy this
def headTailB (ops : Array Oper) (n : Nat) : Bool :=
  Region.noSelect ops && decide (n < ops.size) && Region.lexHead .any ops (ops.size - n) n 0 (Array.replicate ops.size false)
/-- **n heads that yield their values in every state's class, in the text's order; then a forced tail that moves the state.** -/
theorem wp_region_loud {id : Nat} {Q : Exit → Act → World → Prop} {a : Act} {w : World} {l : List Oper} (n : Nat) (Cl : S → World → Prop) (s : S) (hm : P.follows .mixedOrders = true) (hB : headTailB l.toArray n = true)
    (hC : Cl s w.drew) (h : wpHead P l.toArray Cl (fun a' => wpLoud P l.toArray Cl (fun a s => ∀ w, Cl s w → Q .normal a w) (l.drop n) a' s) (l.take n) a) : (Code.region id l.toArray true).wp P Q a w := by
  simp only [headTailB, Bool.and_eq_true, decide_eq_true_eq] at hB
  obtain ⟨⟨hs, hn⟩, hlex⟩ := hB
  have hn' : n < l.length := by simpa using hn
  have htl : (l.take n).length = n := by simp; omega
  have hdl : (l.drop n).length = l.toArray.size - n := by simp
  have hsz : l.toArray.size = l.length := by simp
  refine wp_region_any hm (wpAny_of_G (Cl := Cl) (Q := fun a s => ∀ w, Cl s w → Q .normal a w) (fun a s w hw h => h w hw) _ _ _ s _ hC ?_)
  have H := wpAnyG_lex (P := P) (md := .any) (Q := fun a s => ∀ w, Cl s w → Q .normal a w) (ops := l.toArray) (g := l.toArray.size - n) (L := fun a' s => wpLoud P l.toArray Cl (fun a s => ∀ w, Cl s w → Q .normal a w) (l.drop n) a' s) hs s
    (fun listed a' k hseq hk hw => by
      have hk' : k = n := by omega
      subst hk'
      have := wpAnyG_of_seq (md := .any) (l.drop k) k listed a' s (fun j => by simp [List.getElem?_drop]) (by rw [hdl]; exact hseq) hw
      rwa [hdl] at this)
    (l.take n) 0 (Array.replicate l.toArray.size false) a (fun j hj => by
      have hj' : j < n := by rw [htl] at hj; exact hj
      simp [hj']) (by rw [htl]; omega) (by rw [htl]; exact hlex) h
  rw [htl, show n + (l.toArray.size - n) = l.toArray.size by omega] at H
  exact H
end
/-! ### The class of a region that makes a block: what stood before it stays -/
/-- The states: nothing made yet; block p made, holding cs. -/
def Mk (w : World) (t : TypeId) : Option (Nat × Array Value) → World → Prop
  | none, W => Below w.heap.size w W
  | some (p, cs), W => Below w.heap.size w W ∧ w.heap.size ≤ p ∧ Whole W p t cs
section
variable {P : Program} {ops : Array Oper} {w : World} {t : TypeId}
theorem Mk.base {s : Option (Nat × Array Value)} {W : World} (h : Mk w t s W) : Below w.heap.size w W := by
  cases s with
  | none => exact h
  | some q => exact h.1
theorem Mk.grows {s : Option (Nat × Array Value)} {W W' : World} (h : Mk w t s W) (hb : Below W.heap.size W W') : Mk w t s W' := by
  have h0 := h.base
  cases s with
  | none => exact h0.trans (hb.mono h0.size)
  | some q => exact ⟨h0.trans (hb.mono h0.size), h.2.1, h.2.2.below hb h.2.2.inside⟩
theorem Mk.start (w : World) (t : TypeId) : Mk w t none w.drew := below_drawnN (Below.refl _ w) 1
theorem wpHead_step {S : Type} {Cl : S → World → Prop} {Q : Act → Prop} {a : Act} {o : Oper} {rest : List Oper}
    (h : ∀ K : Act → Prop, (∀ a, wpHead P ops Cl Q rest a → K a) → if Region.wanted o (yielded ops a.tmps) then quietG P o a Cl K else K (a.put o.dst undef)) : wpHead P ops Cl Q (o :: rest) a :=
  h _ (fun _ h => h)
theorem wpHead_nil {S : Type} {Cl : S → World → Prop} {Q : Act → Prop} {a : Act} (h : Q a) : wpHead P ops Cl Q [] a := h
theorem head_want {S : Type} {Cl : S → World → Prop} {o : Oper} {a : Act} {K : Act → Prop} {b : Act} (hw : Region.wanted o (yielded ops a.tmps) = true) (h : ∃ v, (∀ s w, Cl s w → o.quietAt P a (Cl s) w v) ∧ K (a.put o.dst v)) :
    if Region.wanted o (yielded ops a.tmps) then quietG P o a Cl K else K b := by
  rw [if_pos hw]; exact h
/-- A call in the head: its contract leaves old blocks alone. -/
theorem head_call {s : Option (Nat × Array Value)} {o : Oper} {a : Act} {W : World} {v : Value} {f : FuncId} {args : Array Value} (h : (execOp a.eval o).run P W = .ok (.enter f args) W) (hM : Mk w t s W)
    (hc : Calls P f args W (fun e w'' => e = .returned v ∧ Below W.heap.size W w'')) : o.quietAt P a (Mk w t s) W v := by
  unfold Oper.quietAt; rw [h]; exact ⟨rfl, hc.mono fun e w'' ⟨he, hb⟩ => ⟨he, hM.grows hb⟩⟩
/-- A load of a whole block that stood before. -/
theorem head_load {o : Oper} {a : Act} {K : Act → Prop} {b : Act} (hw : Region.wanted o (yielded ops a.tmps) = true) (ty : TypeId) (x : Operand) (ho : o.op = .load ty x)
    (g : Nat) (hx : a.eval x = .pointer (some ⟨g, 0, none⟩)) (tg : TypeId) (cs : Array Value) (d : TypeDesc) (hS : Whole w g tg cs)
    (hu : P.underlying ty = some d) (hd : d.isRow = true) (hi : (P.info? ty).map (·.size) = some cs.size) (h2 : K (a.put o.dst (.agg cs))) :
    if Region.wanted o (yielded ops a.tmps) then quietG P o a (Mk w t) K else K b := by
  refine head_want hw ⟨.agg cs, fun s W hC => quietAt_val ?_, h2⟩
  have h := yieldsIf_load_mid (P := P) (ops := ops) (S := fun W => Below w.heap.size w W) (op := o) (a := a) hw ty x ho g 0 hx cs.toList d (fun W hC j v hv => by
    rw [Nat.zero_add, (hS.below hC hS.inside).at_]; simpa using hv) hu hd (by simpa using hi)
  rcases h with ⟨_, h⟩ | ⟨h, _⟩
  · simpa using h W hC.base
  · rw [hw] at h; cases h
/-- A load of the first cells of a block that stood before. -/
theorem head_load_part {o : Oper} {a : Act} {K : Act → Prop} {b : Act} (hw : Region.wanted o (yielded ops a.tmps) = true) (ty : TypeId) (x : Operand) (ho : o.op = .load ty x)
    (g : Nat) (hx : a.eval x = .pointer (some ⟨g, 0, none⟩)) (tg : TypeId) (all cs : Array Value) (d : TypeDesc) (hS : Whole w g tg all) (hp : ∀ (j : Nat) (v : Value), cs[j]? = some v → all[j]? = some v)
    (hu : P.underlying ty = some d) (hd : d.isRow = true) (hi : (P.info? ty).map (·.size) = some cs.size) (h2 : K (a.put o.dst (.agg cs))) :
    if Region.wanted o (yielded ops a.tmps) then quietG P o a (Mk w t) K else K b := by
  refine head_want hw ⟨.agg cs, fun s W hC => quietAt_val ?_, h2⟩
  have h := yieldsIf_load_mid (P := P) (ops := ops) (S := fun W => Below w.heap.size w W) (op := o) (a := a) hw ty x ho g 0 hx cs.toList d (fun W hC j v hv => by
    rw [Nat.zero_add, (hS.below hC hS.inside).at_]; exact hp j v (by simpa using hv)) hu hd (by simpa using hi)
  rcases h with ⟨_, h⟩ | ⟨h, _⟩
  · simpa using h W hC.base
  · rw [hw] at h; cases h
/-- The tail 'a block is made; a row is stored into it': one goal, the block at whatever place. -/
theorem loud_row {Q : Act → Option (Nat × Array Value) → Prop} {o1 o2 : Oper} {a : Act} (y : Operand) (d : Tmp) (z cs : Array Value)
    (h1 : Region.wanted o1 (yielded ops a.tmps) = true) (hd1 : o1.dst = some d) (ha : ∀ W, (execOp a.eval o1).run P W = .ok (.value (.pointer (some ⟨W.heap.size, 0, none⟩))) (W.alloc (.cells z t)))
    (h2 : ∀ p, Region.wanted o2 (yielded ops (a.put (some d) (.pointer (some ⟨p, 0, none⟩))).tmps) = true) (hs : o2.op = .store t (.tmp d) y) (hd2 : o2.dst = none)
    (hx : ∀ p, (a.put (some d) (.pointer (some ⟨p, 0, none⟩))).eval (.tmp d) = .pointer (some ⟨p, 0, none⟩)) (hy : ∀ p, (a.put (some d) (.pointer (some ⟨p, 0, none⟩))).eval y = .agg cs)
    (hi : (P.info? t).map (·.size) = some cs.size) (hold : z.size = cs.size) (hone : cs.all (·.oneCell') = true)
    (k : ∀ p, Q (a.put (some d) (.pointer (some ⟨p, 0, none⟩))) (some (p, cs))) : wpLoud P ops (Mk w t) Q [o1, o2] a none := by
  simp only [wpLoud, h1, if_true]
  intro W hW
  rw [ha W]
  have hW0 : Below w.heap.size w W := hW
  refine ⟨some (W.heap.size, z), ⟨hW0.trans (((Below.refl _ W).alloc (Nat.le_refl _) _).mono hW0.size), hW0.size, Whole.made W t z⟩, ?_⟩
  rw [hd1]
  simp only [h2, if_true]
  intro W2 hW2
  have hrun : (execOp (a.put (some d) (.pointer (some ⟨W.heap.size, 0, none⟩))).eval o2).run P W2 = .ok .skip (W2.setRow W.heap.size cs) := by
    unfold execOp
    simp only [hs, hx, hy, Instr.storeAt, Instr.sureAddr, Sem.run_bind, Sem.run_pure, Result.andThen_ok, run_storeVar_row W2 W.heap.size t t z cs hW2.2.2 hi hold hone]
  rw [hrun]
  refine ⟨some (W.heap.size, cs), ⟨hW2.1.grown (only_row _ _ _) hW2.1.size (fun q hq => by injection hq with hq; subst hq; exact hW0.size), hW2.2.1, hW2.2.2.row⟩, ?_⟩
  rw [hd2]
  exact k _
end
end Go.Spk
