/- errors.As on a Fault whose target is a *Fault; api.Where. -/
import Derived.Test.YtfoljmpphbhobaaGreatDoorIs
import Derived.Test.YtfoljmpphbhobaaGreatDoorPack7
import Derived.Lib.ReflectliteSlice
namespace Go.Proofs.YtfoljmpphbhobaaGreatDoor
open Go.RowKit Go.Extern.Stop Go.Stop Go.Extern Go.Spk
set_option linter.unusedVariables false
/-- The descriptor of a type. -/
def hdV (t : TypeId) : Value := .pointer (some ⟨24, t, none⟩)
def rtV (t : TypeId) : Value := .iface 133 (.agg #[hdV t])
def valueOfE : Array Value → Sem Value := fun args => ReflectliteValue.unpack (args.getD 0 (.tuple #[]))
def typeE : Array Value → Sem Value := ReflectliteValue.methodAny (ReflectliteValue.valueError "reflectlite.Value.Type" 0) fun t _ _ _ => ReflectliteType.toType t
def kindE : Array Value → Sem Value := ReflectliteType.abiMethod fun t => do pure (.int .u8 (← Go.Extern.Rtype.kind t))
def isNilE : Array Value → Sem Value := ReflectliteValue.method (ReflectliteValue.valueError "reflectlite.Value.IsNil" 0) ReflectliteValue.isNil
def elemTE : Array Value → Sem Value := ReflectliteType.method ReflectliteType.elem
def implE : Array Value → Sem Value := ReflectliteType.relation "Implements" ReflectliteType.implements_
def assE : Array Value → Sem Value := ReflectliteType.relation "AssignableTo" ReflectliteType.assignableTo
def elemVE : Array Value → Sem Value := ReflectliteValue.method (ReflectliteValue.valueError "reflectlite.Value.Elem" 0) ReflectliteValue.elem
theorem asKindPP (w : World) : (Go.Extern.Rtype.kind 88).run Tryz.prog w = .ok 22 w := by kernel_rfl
theorem asKindP (w : World) : (Go.Extern.Rtype.kind 86).run Tryz.prog w = .ok 22 w := by kernel_rfl
theorem asHandle (t : TypeId) : typeHandle Tryz.prog t = hdV t := by
  unfold typeHandle hdV
  rw [show Tryz.prog.globals.size = 24 by kernel_rfl]
theorem asValueOfPP (g : Option Addr) (w : World) : (valueOfE #[.iface 88 (.pointer g)]).run Tryz.prog w = .ok (.agg #[hdV 88, .pointer (some ⟨w.heap.size, 0, none⟩), .int .u64 150]) (w.alloc (.cells #[.pointer g] 88)) := by
  simp [valueOfE, ReflectliteValue.unpack, ReflectliteValue.mk, newVar, newRow, Go.Extern.Rtype.handle, asKindPP, Result.andThen, Value.cells, ReflectliteValue.flagIndir, asHandle]
theorem asValueOfP (g : Option Addr) (w : World) : (valueOfE #[.iface 86 (.pointer g)]).run Tryz.prog w = .ok (.agg #[hdV 86, .pointer (some ⟨w.heap.size, 0, none⟩), .int .u64 150]) (w.alloc (.cells #[.pointer g] 86)) := by
  simp [valueOfE, ReflectliteValue.unpack, ReflectliteValue.mk, newVar, newRow, Go.Extern.Rtype.handle, asKindP, Result.andThen, Value.cells, ReflectliteValue.flagIndir, asHandle]
theorem asType (a : Addr) (w : World) : (typeE #[.agg #[hdV 88, .pointer (some a), .int .u64 150]]).run Tryz.prog w = .ok (rtV 88) w := by kernel_rfl
theorem asKind (w : World) : (kindE #[hdV 88]).run Tryz.prog w = .ok (.int .u8 22) w := by kernel_rfl
theorem asKind2 (w : World) : (kindE #[hdV 86]).run Tryz.prog w = .ok (.int .u8 22) w := by kernel_rfl
theorem asElemT (w : World) : (elemTE #[.agg #[hdV 88]]).run Tryz.prog w = .ok (rtV 86) w := by kernel_rfl
theorem asImpl (w : World) : (implE #[.agg #[hdV 86], rtV 36]).run Tryz.prog w = .ok (.bool true) w := by kernel_rfl
theorem asAss (w : World) : (assE #[.agg #[hdV 86], rtV 86]).run Tryz.prog w = .ok (.bool true) w := by kernel_rfl
theorem asTypeOf (v : Value) (w : World) : (Extern.ReflectliteType.typeOf #[.iface 86 v]).run Tryz.prog w = .ok (rtV 86) w := by kernel_rfl
theorem asMethodKind (t : TypeId) (w : World) : (Go.method 317 133 (.agg #[hdV t]) "Kind").run Tryz.prog w = .ok (119, hdV t) w := by kernel_rfl
theorem asMethodElem (v : Value) (w : World) : (Go.method 317 133 v "Elem").run Tryz.prog w = .ok (132, v) w := by kernel_rfl
theorem asMethodImpl (v : Value) (w : World) : (Go.method 317 133 v "Implements").run Tryz.prog w = .ok (133, v) w := by kernel_rfl
theorem asMethodAss (v : Value) (w : World) : (Go.method 317 133 v "AssignableTo").run Tryz.prog w = .ok (130, v) w := by kernel_rfl
theorem asPartsPP (a : Addr) (w : World) : (ReflectliteValue.parts (.agg #[hdV 88, .pointer (some a), .int .u64 150])).run Tryz.prog w = .ok (some (88, a, 150)) w := by kernel_rfl
theorem asPartsP (a : Addr) (w : World) : (ReflectliteValue.parts (.agg #[hdV 86, .pointer (some a), .int .u64 150])).run Tryz.prog w = .ok (some (86, a, 150)) w := by kernel_rfl
theorem asPartsD (a : Addr) (w : World) : (ReflectliteValue.parts (.agg #[hdV 86, .pointer (some a), .int .u64 406])).run Tryz.prog w = .ok (some (86, a, 406)) w := by kernel_rfl
theorem asElem? (w : World) : (Go.Extern.Rtype.elem? 88).run Tryz.prog w = .ok (some 86) w := by kernel_rfl
theorem asDirect (w : World) : (Go.Extern.Rtype.directlyAssignable 86 86).run Tryz.prog w = .ok true w := by kernel_rfl
theorem asSize (w : World) : (sizeOf 86).run Tryz.prog w = .ok 1 w := by kernel_rfl
theorem asIsNil (a : Addr) (p : Addr) (w : World) (h : w.cell? a = some (.pointer (some p))) : (isNilE #[.agg #[hdV 88, .pointer (some a), .int .u64 150]]).run Tryz.prog w = .ok (.bool false) w := by
  unfold isNilE
  rw [Go.Lib.rl_method]
  simp only [Sem.run_bind, asPartsPP, Result.andThen]
  simp [ReflectliteValue.isNil, loadVar, isAgg, underlying, Tryz.underlying88, h, Result.andThen]
theorem asElemV (a : Addr) (p : Addr) (w : World) (h : w.cell? a = some (.pointer (some p))) : (elemVE #[.agg #[hdV 88, .pointer (some a), .int .u64 150]]).run Tryz.prog w = .ok (.agg #[hdV 86, .pointer (some p), .int .u64 406]) w := by
  unfold elemVE
  rw [Go.Lib.rl_method]
  simp only [Sem.run_bind, asPartsPP, Result.andThen]
  simp [ReflectliteValue.elem, loadVar, isAgg, underlying, Tryz.underlying88, h, Result.andThen, asElem?, ReflectliteValue.mk, Go.Extern.Rtype.handle, asHandle, asKindP, ReflectliteValue.flagIndir, ReflectliteValue.flagAddr]
theorem asSet_unfold (v x : Value) : ReflectliteValue.set #[v, x] = (do
    let (some (dst, a, fl), some (src, b, _)) := (← ReflectliteValue.parts v, ← ReflectliteValue.parts x)
      | unsupported (.noEntry "extern/(internal/reflectlite.Value).Set.zeroValue")
    if fl / ReflectliteValue.flagAddr % 2 == 0 then unsupported (.noEntry "extern/(internal/reflectlite.Value).Set.unaddressable")
    let val ← loadVar src b
    if ← Go.Extern.Rtype.directlyAssignable dst src then storeVar dst a val
    else if ← Go.Extern.Rtype.implements dst src then
      if (← Go.Extern.Rtype.kind src) == 20 then
        match val with
        | .nilIface => unsupported (.noEntry "extern/reflectlite: a nil value of one interface type handed on as a value of another")
        | _ => storeVar dst a val
      else storeVar dst a (.iface src val)
    else panicString ("reflectlite.Set: value of type " ++ (← Go.Extern.Rtype.spelt src) ++ " is not assignable to type " ++ (← Go.Extern.Rtype.spelt dst))
    pure (.tuple #[])) := rfl
theorem asSet (g : Nat) (b : Addr) (p : Addr) (w : World) (h : w.cell? b = some (.pointer (some p))) (hc : Whole w g 86 #[.pointer none]) :
    (ReflectliteValue.set #[.agg #[hdV 86, .pointer (some ⟨g, 0, none⟩), .int .u64 406], .agg #[hdV 86, .pointer (some b), .int .u64 150]]).run Tryz.prog w = .ok (.tuple #[]) (w.setCell ⟨g, 0, none⟩ (.pointer (some p))) := by
  have hcell : w.cell? ⟨g, 0, none⟩ = some (.pointer none) := by rw [hc.at_]; rfl
  have hfree := hc.free 0
  rw [asSet_unfold]
  simp only [Sem.run_bind, asPartsD, asPartsP, Result.andThen]
  simp [ReflectliteValue.flagAddr, loadVar, isAgg, underlying, Tryz.underlying86, h, Result.andThen, asDirect, storeVar, Value.cells, storeCells]
  rw [Addr.add_mid, run_store _ _ _ _ _ rfl, Nat.zero_add, hcell]
  simp [hfree]
set_option maxRecDepth 100000 in
set_option maxHeartbeats 2000000 in
/-- errors.as where the error itself is a Fault: the target is set. -/
theorem as_calls (g : Nat) (pv tv : Addr) (p : Addr) (w : World) (ht : w.cell? tv = some (.pointer (some ⟨g, 0, none⟩))) (hg : Whole w g 86 #[.pointer none]) :
    Calls Tryz.prog 60 #[.iface 86 (.pointer (some p)), .iface 88 (.pointer (some ⟨g, 0, none⟩)), .agg #[hdV 88, .pointer (some tv), .int .u64 150], rtV 86] w
      fun e w' => e = .returned (.bool true) ∧ w.grownBy w' (some g) ∧ Whole w' g 86 #[.pointer (some p)] := by
  have h8 := @run_callFunc_extern Tryz.prog 50 _ Extern.ReflectliteType.typeOf Tryz.func50 (by kernel_rfl) (by kernel_rfl) (by kernel_rfl) (by kernel_rfl)
  have hA := @run_callFunc_extern Tryz.prog 130 _ assE Tryz.func130 (by kernel_rfl) (by kernel_rfl) (by kernel_rfl) (by kernel_rfl)
  have hE := @run_callFunc_extern Tryz.prog 77 _ elemVE Tryz.func77 (by kernel_rfl) (by kernel_rfl) (by kernel_rfl) (by kernel_rfl)
  have hV := @run_callFunc_extern Tryz.prog 57 _ valueOfE Tryz.func57 (by kernel_rfl) (by kernel_rfl) (by kernel_rfl) (by kernel_rfl)
  have hS := @run_callFunc_extern Tryz.prog 78 _ ReflectliteValue.set Tryz.func78 (by kernel_rfl) (by kernel_rfl) (by kernel_rfl) (by kernel_rfl)
  have tT := asTypeOf
  have aT := asAss
  have mA := asMethodAss
  obtain ⟨w1, hw1⟩ : ∃ w1, w1 = w.alloc (.cells #[hdV 88, .pointer (some tv), .int .u64 150] 115) := ⟨_, rfl⟩
  have ht1 : w1.cell? tv = some (.pointer (some ⟨g, 0, none⟩)) := by
    rw [hw1]; exact (World.cell?_alloc_lt w _ tv (block_lt_of_cell ht)).trans ht
  have hg1 : Whole w1 g 86 #[.pointer none] := by rw [hw1]; exact hg.alloc _
  have gr1 : w.grownBy w1 (some g) := by rw [hw1]; exact World.grownBy_alloc w _ _
  have eV := asElemV tv ⟨g, 0, none⟩ w1 ht1
  have vO := asValueOfP (some p) w1
  have hg2 : Whole (w1.alloc (.cells #[.pointer (some p)] 86)) g 86 #[.pointer none] := hg1.alloc _
  have sT := asSet g ⟨w1.heap.size, 0, none⟩ p (w1.alloc (.cells #[.pointer (some p)] 86)) (by simp) hg2
  unfold rtV at tT aT ⊢
  go_enter Tryz.func60, Tryz.ntmps60
  go_wp2
  rw [← hw1]
  refine wp_loop_rounds 1 ?_
  rw [rounds_succ]
  have hcl : ∀ q u, (#[hdV 88, .pointer (some tv), .int .u64 150] : Array Value)[q]? = some u → w1.cell? ⟨w.heap.size, q, none⟩ = some u := fun q u hu => by
    rw [hw1]
    rw [(Whole.made w 115 _).at_]; exact hu
  have hc0 := hcl 0 _ rfl
  have hc1 := hcl 1 _ rfl
  have hc2 := hcl 2 _ rfl
  clear hcl hw1
  go_wp2
  go_ret
  exact ⟨rfl, (gr1.trans (World.grownBy_alloc w1 _ _)).trans (only_stored (g := g) _ rfl _), by
    exact hg2.stored 0 (.pointer (some p))⟩
theorem grown_any {w w' : World} {r : Option Nat} (h : w.grownBy w' none) : w.grownBy w' r := ⟨h.os, h.tape, h.output, h.size, fun k hk _ => h.block k hk (by simp)⟩
set_option maxRecDepth 100000 in
set_option maxHeartbeats 2000000 in
/-- errors.As where the error itself is a Fault. -/
theorem asOut_calls (g : Nat) (p : Addr) (w : World) (hg : Whole w g 86 #[.pointer none]) (hE : w.cell? ⟨20, 0, none⟩ = some (rtV 36)) :
    Calls Tryz.prog 38 #[.iface 86 (.pointer (some p)), .iface 88 (.pointer (some ⟨g, 0, none⟩))] w
      fun e w' => e = .returned (.bool true) ∧ w.grownBy w' (some g) ∧ Whole w' g 86 #[.pointer (some p)] := by
  have hV := @run_callFunc_extern Tryz.prog 57 _ valueOfE Tryz.func57 (by kernel_rfl) (by kernel_rfl) (by kernel_rfl) (by kernel_rfl)
  have hT := @run_callFunc_extern Tryz.prog 58 _ typeE Tryz.func58 (by kernel_rfl) (by kernel_rfl) (by kernel_rfl) (by kernel_rfl)
  have hK := @run_callFunc_extern Tryz.prog 119 _ kindE Tryz.func119 (by kernel_rfl) (by kernel_rfl) (by kernel_rfl) (by kernel_rfl)
  have hN := @run_callFunc_extern Tryz.prog 59 _ isNilE Tryz.func59 (by kernel_rfl) (by kernel_rfl) (by kernel_rfl) (by kernel_rfl)
  have hL := @run_callFunc_extern Tryz.prog 132 _ elemTE Tryz.func132 (by kernel_rfl) (by kernel_rfl) (by kernel_rfl) (by kernel_rfl)
  have hI := @run_callFunc_extern Tryz.prog 133 _ implE Tryz.func133 (by kernel_rfl) (by kernel_rfl) (by kernel_rfl) (by kernel_rfl)
  have vO := asValueOfPP (some ⟨g, 0, none⟩) w
  obtain ⟨w1, hw1⟩ : ∃ w1, w1 = w.alloc (.cells #[.pointer (some ⟨g, 0, none⟩)] 88) := ⟨_, rfl⟩
  have ht1 : w1.cell? ⟨w.heap.size, 0, none⟩ = some (.pointer (some ⟨g, 0, none⟩)) := by rw [hw1, (Whole.made w 88 _).at_]; rfl
  have hg1 : Whole w1 g 86 #[.pointer none] := by rw [hw1]; exact hg.alloc _
  have gr1 : w.grownBy w1 (some g) := by rw [hw1]; exact World.grownBy_alloc w _ _
  have hE1 : w1.cell? ⟨20, 0, none⟩ = some (rtV 36) := by rw [hw1]; exact (World.cell?_alloc_lt w _ _ (block_lt_of_cell hE)).trans hE
  have HG := Lib.hid hg1; have HT1 := Lib.hid ht1; have HGR := Lib.hid gr1
  rw [← hw1] at vO
  have tO := fun w2 : World => asType ⟨w.heap.size, 0, none⟩ w2
  obtain ⟨w2, hw2⟩ : ∃ w2, w2 = w1.alloc (.cells #[hdV 88, .pointer (some ⟨w.heap.size, 0, none⟩), .int .u64 150] 115) := ⟨_, rfl⟩
  have hF2 : w1.grownBy w2 none ∧ Whole w2 w1.heap.size 115 #[hdV 88, .pointer (some ⟨w.heap.size, 0, none⟩), .int .u64 150] := by
    subst hw2
    exact ⟨World.grownBy_alloc w1 _ _, Whole.made w1 _ _⟩
  have hg2 : Whole w2 g 86 #[.pointer none] := hg1.only hF2.1 (by simp)
  have ht2 : w2.cell? ⟨w.heap.size, 0, none⟩ = some (.pointer (some ⟨g, 0, none⟩)) := by
    rw [← ht1]; exact World.cell?_of_block (hF2.1.block _ (block_lt_of_cell ht1) (by simp))
  have hE2 : w2.cell? ⟨20, 0, none⟩ = some (rtV 36) := by
    rw [← hE1]; exact World.cell?_of_block (hF2.1.block _ (block_lt_of_cell hE1) (by simp))
  have c0 : w2.cell? ⟨w1.heap.size, 0, none⟩ = some (hdV 88) := by rw [hF2.2.at_]; rfl
  have c1 : w2.cell? ⟨w1.heap.size, 1, none⟩ = some (.pointer (some ⟨w.heap.size, 0, none⟩)) := by rw [hF2.2.at_]; rfl
  have c2 : w2.cell? ⟨w1.heap.size, 2, none⟩ = some (.int .u64 150) := by rw [hF2.2.at_]; rfl
  have nO := asIsNil ⟨w.heap.size, 0, none⟩ ⟨g, 0, none⟩ w2 ht2
  have HG2 := Lib.hid hg2; have HT2 := Lib.hid ht2; have HGR2 := Lib.hid (hF2.1)
  have HW2 := Lib.hid hw2
  have kO := asKind
  have kO2 := asKind2
  have lO := asElemT
  have iO := asImpl
  have mK := asMethodKind
  have mE := asMethodElem
  have mI := asMethodImpl
  clear hw1 hg1 gr1 hw2 hg2 ht2 hF2 ht1 hE1 hE hg
  unfold rtV at tO lO iO hE2
  simp only [hdV] at vO tO nO kO kO2 lO iO mK hE2 c0 HW2
  go_enter Tryz.func38, Tryz.ntmps38
  go_wp2_with fail
  rw [← HW2.out, nO]
  go_wp2_with fail
  refine (as_calls g ⟨0, 0, none⟩ ⟨w.heap.size, 0, none⟩ p w2 HT2.out HG2.out).mono ?_
  rintro e w3 ⟨rfl, g3, h3⟩
  go_wp2_with fail
  go_ret
  exact ⟨rfl, (HGR.out.trans (grown_any HGR2.out)).trans g3, h3⟩
set_option maxRecDepth 100000 in
/-- api.Where of a Fault: its place. -/
theorem where_fault (pb : Nat) (s : ByteArray) (ev : Value) (w : World) (h : Whole w pb 90 #[.string s, ev]) (hE : w.cell? ⟨20, 0, none⟩ = some (rtV 36)) :
    Calls Tryz.prog 19 #[.iface 86 (.pointer (some ⟨pb, 0, none⟩))] w fun e w' => e = .returned (.string s) ∧ Below w.heap.size w w' := by
  have HE := Lib.hid hE; have H := Lib.hid h
  clear hE h
  go_enter Tryz.func19, Tryz.ntmps19
  go_wp2_with fail
  refine (asOut_calls w.heap.size ⟨pb, 0, none⟩ _ (Whole.made w 86 _) ((World.cell?_alloc_lt w _ _ (block_lt_of_cell HE.out)).trans HE.out)).mono ?_
  rintro e w2 ⟨rfl, g2, h2⟩
  have c0 : w2.cell? ⟨w.heap.size, 0, none⟩ = some (.pointer (some ⟨pb, 0, none⟩)) := by rw [h2.at_]; rfl
  have hp : Whole w2 pb 90 #[.string s, ev] := (H.out.alloc _).only g2 (ne_some (Nat.ne_of_lt H.out.inside))
  have c1 : w2.cell? ⟨pb, 0, none⟩ = some (.string s) := by rw [hp.at_]; rfl
  have HB := Lib.hid (show Below w.heap.size w w2 from below_some ((Below.refl _ w).alloc (Nat.le_refl _) _) g2 (Nat.le_refl _))
  clear g2 h2 hp
  go_wp2_with fail
  go_ret
  exact ⟨rfl, HB.out⟩
end Go.Proofs.YtfoljmpphbhobaaGreatDoor
