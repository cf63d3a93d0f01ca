/- Words for a region that draws its order and calls functions that make memory: a walk in one class of worlds, stated over any program. -/
import Derived.Deep.Quiet
import Derived.BigQuiet
import Derived.Tactics
import Derived.Laws.Rows
import Derived.Deep.MidRow
import Derived.Test.YtfoljmpphbhobaaDoorBase
namespace Go.Spk
open Go.RowKit
section
variable {P : Program} {ops : Array Oper} {C : World → Prop} {Q : Act → Prop}
theorem quiet_want {o : Oper} {a : Act} {K : Act → Prop} {b : Act} (hw : Region.wanted o (yielded ops a.tmps) = true) (h : ∃ v, (∀ w, C w → o.quietAt P a C w v) ∧ K (a.put o.dst v)) :
    if Region.wanted o (yielded ops a.tmps) then o.quiet P a C K else K b := by
  rw [if_pos hw]; exact h
theorem quietAt_val {o : Oper} {a : Act} {w : World} {v : Value} (h : (execOp a.eval o).run P w = .ok (.value v) w) : o.quietAt P a C w v := by
  unfold Oper.quietAt; rw [h]; exact ⟨rfl, rfl⟩
theorem quietAt_call {o : Oper} {a : Act} {w : World} {v : Value} {f : FuncId} {args : Array Value} (h : (execOp a.eval o).run P w = .ok (.enter f args) w) (hc : Calls P f args w (fun e w'' => e = .returned v ∧ C w'')) : o.quietAt P a C w v := by
  unfold Oper.quietAt; rw [h]; exact ⟨rfl, hc⟩
theorem quiet_load {o : Oper} {a : Act} {K : Act → Prop} {b : Act} (hw : Region.wanted o (yielded ops a.tmps) = true) (ty : TypeId) (x : Operand) (ho : o.op = .load ty x)
    (g : Nat) (hx : a.eval x = .pointer (some ⟨g, 0, none⟩)) (t : TypeId) (cs : Array Value) (d : TypeDesc) (hS : ∀ w, C w → Whole w g t cs)
    (hu : P.underlying ty = some d) (hd : d.isRow = true) (hi : (P.info? ty).map (·.size) = some cs.size) (h2 : K (a.put o.dst (.agg cs))) :
    if Region.wanted o (yielded ops a.tmps) then o.quiet P a C K else K b := by
  refine quiet_want hw ⟨.agg cs, fun w hC => quietAt_val ?_, h2⟩
  have h := yieldsIf_load_mid (P := P) (ops := ops) (S := C) (op := o) (a := a) hw ty x ho g 0 hx cs.toList d (fun w hC j v hv => by
    rw [Nat.zero_add, (hS w hC).at_]; simpa using hv) hu hd (by simpa using hi)
  rcases h with ⟨_, h⟩ | ⟨h, _⟩
  · simpa using h w hC
  · rw [hw] at h; cases h
/-- A region that draws its order, walked in the text's order in one class of worlds. -/
theorem wp_region_class {id : Nat} {Q : Exit → Act → World → Prop} {a : Act} {w : World} {l : List Oper} (C : World → Prop) (hm : P.follows .mixedOrders = true) (hB : Region.lexB .any l.toArray = true)
    (hC : C w.drew) (h : wpQuiet P l.toArray C (fun a' => ∀ w', C w' → Q .normal a' w') l a) : (Code.region id l.toArray true).wp P Q a w :=
  wp_region_quiet (C := C) hm hB hC (by simpa using h)
end
end Go.Spk
