/- An argument that is an array of integers, opened and shut; a two-dimensional table of integers out of the row's list: over any program. -/
import Derived.Test.YtfoljmpphbhobaaDoorBase
import Derived.OpenShut
import Derived.Lib.LaidTab
import Derived.Deep.MidRow
import Derived.DataShut
import Derived.ChangeSame
import Derived.Below
namespace Go.Spk
open Go.RowKit Go.ChangeShapes Go.WideShapes
section
variable {H : Type} {enc : TypeId × Value → H} {P : Program} {w : World} {base : Nat} {sp : Nat → Bool} {held : Bool}
theorem open_arr {t e : TypeId} {n : Nat} {k : IntKind} {v : Value} {d : DataW H} {ps : List MemPlace} (ht : P.underlying t = some (.array n e)) (he : P.underlying e = some (.int k)) (hce : P.cellsOf e = 1) (hct : P.cellsOf t = n) (hn : n ≠ 1)
    (h : DataW.Trod enc P w base sp held t v d ps) : ∃ ws : List Int, ws.length = n ∧ v = .agg (rowI k ws) ∧ d = .agg (ws.map fun z => .lit (.int k z)) ∧ ps = [] ∧ ∀ z ∈ ws, (Lit.int k z).wf = true := by
  obtain ⟨fuel, hf⟩ := h
  obtain ⟨xs, m, _, hx, hl, hxl, hi⟩ := DataW.trod_array ht hf
  rw [hct] at hl
  simp only [hce, Nat.mul_one] at hi
  generalize hcs : v.cells.toList = cs at hf hl hi
  have key : ∀ i, i < n → ∃ z, cs[i]? = some (.int k z) ∧ xs[i]? = some (.lit (.int k z), []) ∧ (Lit.int k z).wf = true := by
    intro i hin
    have h1 := hi i hin
    obtain ⟨y, hy⟩ : ∃ y, xs[i]? = some y := ⟨xs[i]'(by omega), List.getElem?_eq_getElem (by omega)⟩
    rw [hy] at h1
    obtain ⟨z, hc, rfl, hw⟩ := DataW.trod_int he h1
    refine ⟨z, ?_, hy, hw⟩
    have := congrArg (·[0]?) hc
    simpa [List.getElem?_take, List.getElem?_drop] using this
  let ws : List Int := cs.map fun v => match v with | .int _ z => z | _ => 0
  have hwl : ws.length = n := by simp [ws, hl]
  have hws : ∀ i, i < n → ∀ z, cs[i]? = some (.int k z) → ws[i]? = some z := fun i _ z hz => by simp [ws, hz]
  have e1 : cs = ws.map (Value.int k) := by
    apply List.ext_getElem?
    intro i
    by_cases hin : i < n
    · obtain ⟨z, hz, _, _⟩ := key i hin
      rw [hz, List.getElem?_map, hws i hin z hz]; rfl
    · rw [List.getElem?_eq_none (by omega), List.getElem?_eq_none (by simp; omega)]
  have e2 : xs = ws.map fun z => ((.lit (.int k z), []) : DataW H × List MemPlace) := by
    apply List.ext_getElem?
    intro i
    by_cases hin : i < n
    · obtain ⟨z, hz, hxz, _⟩ := key i hin
      rw [hxz, List.getElem?_map, hws i hin z hz]; rfl
    · rw [List.getElem?_eq_none (by omega), List.getElem?_eq_none (by simp; omega)]
  simp only [Prod.mk.injEq] at hx
  refine ⟨ws, hwl, ?_, ?_, ?_, ?_⟩
  · have hv : v.cells = rowI k ws := by
      apply Array.toList_inj.1
      rw [hcs, e1]; simp [rowI]
    cases v with
    | agg a => simp only [Value.cells] at hv; rw [hv]
    | _ =>
      exfalso
      simp only [Value.cells] at hcs
      subst hcs
      simp at hl
      omega
  · rw [hx.1, e2]; simp [List.map_map, Function.comp_def]
  · rw [hx.2, e2]; simp [List.flatMap_map]
  · intro z hz
    obtain ⟨i, hin, rfl⟩ := List.getElem_of_mem hz
    obtain ⟨z', hz', _, hw⟩ := key i (by omega)
    have := hws i (by omega) z' hz'
    rw [List.getElem?_eq_getElem hin] at this
    cases this
    exact hw
theorem shut_arr {t e : TypeId} {n : Nat} {k : IntKind} {ws : List Int} (ht : P.underlying t = some (.array n e)) (he : P.underlying e = some (.int k)) (hce : P.cellsOf e = 1) (hct : P.cellsOf t = n) (hl : ws.length = n)
    (hw : ∀ z ∈ ws, (Lit.int k z).wf = true) : DataW.Trod enc P w base sp held t (.agg (rowI k ws)) (.agg (ws.map fun z => .lit (.int k z))) [] := by
  refine ⟨2, ?_⟩
  have hm : (List.range n).mapM (fun i => DataW.trod enc P w base sp held 1 e ((((Value.agg (rowI k ws)).cells.toList).drop (i * P.cellsOf e)).take (P.cellsOf e))) = some (ws.map fun z => ((.lit (.int k z), []) : DataW H × List MemPlace)) := by
    refine mapM_some_of_get _ _ (by simp [hl]) fun i x hx => ?_
    have hin : i < n := by
      have := (List.getElem?_eq_some_iff.1 hx).1
      simpa using this
    obtain rfl : i = x := by simpa [hin] using hx
    have hg : ws[i]? = some (ws[i]'(by omega)) := List.getElem?_eq_getElem (by omega)
    have ht1 : (((Value.agg (rowI k ws)).cells.toList).drop (i * P.cellsOf e)).take (P.cellsOf e) = [.int k (ws[i]'(by omega))] := by
      rw [hce, Nat.mul_one]
      apply List.ext_getElem?
      intro j
      cases j with
      | zero => simp [Value.cells, rowI, List.getElem?_drop, hg]
      | succ j => simp [List.getElem?_take]
    rw [ht1, List.getElem?_map, hg]
    have hwi := hw (ws[i]'(by omega)) (List.getElem_mem _)
    simp [DataW.trod, he, hwi]
  unfold DataW.trod
  rw [ht]
  simp only []
  rw [if_pos (by simp [Value.cells, rowI, hl, hct]), hm]
  simp [List.map_map, Function.comp_def, List.flatMap_map]
theorem cells_of_tab2 {fuel : Nat} {t e q : TypeId} {n m : Nat} {k : IntKind} {cs : List Value} {zs : List (List Int)} {p : List MemPlace}
    (ht : P.underlying t = some (.array n e)) (he : P.underlying e = some (.array m q)) (hq : P.underlying q = some (.int k)) (hcq : P.cellsOf q = 1) (hce : P.cellsOf e = m) (hct : P.cellsOf t = n * m) (hz : zs.length = n)
    (h : DataW.trod enc P w base sp held fuel t cs = some (.agg (zs.map fun r => .agg (r.map fun z => .lit (.int k z))), p)) :
    cs.length = n * m ∧ ∀ i, i < n → (cs.drop (i * m)).take m = (zs.getD i []).map (Value.int k) := by
  obtain ⟨xs, m', _, hx, hl, hxl, hi⟩ := DataW.trod_array ht h
  rw [hct] at hl
  rw [hce] at hi
  simp only [Prod.mk.injEq, DataW.agg.injEq] at hx
  refine ⟨hl, fun i hin => ?_⟩
  obtain ⟨y, hy⟩ : ∃ y, xs[i]? = some y := ⟨xs[i]'(by omega), List.getElem?_eq_getElem (by omega)⟩
  have h1 := hi i hin
  rw [hy] at h1
  have h2 := congrArg (·[i]?) hx.1
  have hzi : zs[i]? = some (zs.getD i []) := by simp [List.getD, show i < zs.length by omega]
  simp only [List.getElem?_map, hy, hzi, Option.map_some, Option.some.injEq] at h2
  have h3 : y = (Lib.tabData k (zs.getD i []), y.2) := by rw [Lib.tabData, h2]
  rw [h3] at h1
  exact Lib.cells_of_tab he hq hcq hce h1
end
/-- What a law's post asks, where the call left old memory alone ('Below'). -/
theorem post_of_below {H : Type} {enc : TypeId × Value → H} {P : Program} {f : Func} {s : ChangeSpec} {apart fresh handsOn again : Bool} {W W' : World} {args : Array Value} {v : Value} {ds gs : List (DataW H)} {before pa pv : List MemPlace}
    (hW : DataW.Whole enc P f.params.toList s.vars apart W args.toList ds gs before)
    (hres : ∀ (b : Nat) (sp : Nat → Bool) (hd : Bool), DataW.TrodAll enc P W' b sp hd f.resultTypes.toList (v.resultList f.resultTypes.size) (s.fn H (ds ++ gs)).results [])
    (hargs : ∀ sp : Nat → Bool, (∀ p ∈ before, sp p.block = true) → DataW.TrodAll enc P W' 0 sp true f.params.toList args.toList (s.fn H (ds ++ gs)).args pa)
    (hvars : ∀ sp : Nat → Bool, (∀ p ∈ before, sp p.block = true) → DataW.TrodVars enc P W' sp s.vars (s.fn H (ds ++ gs)).vars pv)
    (hps : before = pa ++ pv) (hb : Below W.heap.size W W')
    (hok : ∀ (j : Nat) (t : TypeId) (r : Value), f.resultTypes[j]? = some t → (v.resultList f.resultTypes.size)[j]? = some r → Value.okWide P W' .any 0 t r) :
    s.post enc P f apart fresh handsOn again W args v W' := by
  have hold : ∀ p ∈ before, (fun b => decide (b < W.heap.size)) p.block = true := fun p hp => by simpa using hW.lt p hp
  refine ⟨ds, gs, before, [], pa, pv, hW, hres _ _ _, hargs _ hold, hvars _ hold, World.keptBut_mono (fun p hp => ⟨hp, ?_⟩) (hb.frame (· ∈ before)), fun _ => ?_⟩
  · rw [hps, List.mem_append] at hp
    exact Or.inr hp
  · have hlt := hW.lt
    obtain ⟨_, _, _, _, _, hz, hn⟩ := hW
    refine ⟨hok, _, _, ([] ++ pa) ++ pv, ⟨[] ++ pa, pv, trodAll_append (hargs _ (fun _ _ => rfl)) (hres _ _ _), hvars _ (fun _ _ => rfl), rfl, ?_, ?_⟩, ?_⟩
    · intro b off hp
      have hq := (show _ ∈ before by rw [hps]; simpa using hp)
      rw [hb.frozen (p := ⟨b, off, none⟩) (hlt _ hq)]
      exact hz b off hq
    · intro ha
      have := hn ha
      rw [hps] at this
      simpa using this
    · intro p hp _
      rw [hps]
      simpa using hp
/-- An object of a world, its cells set. -/
def layCells (cs : Array Value) : Obj → Obj
  | .cells _ t frozen => .cells cs t frozen
  | o => o
theorem u8_wf {ws : List Int} (h : ∀ z ∈ ws, (Lit.int .u8 z).wf = true) : ∀ b ∈ ws, 0 ≤ b ∧ b ≤ 255 := fun b hb => by
  have := h b hb
  simp [Lit.wf, IntKind.min, IntKind.max, IntKind.signed, IntKind.bits] at this
  omega
end Go.Spk
