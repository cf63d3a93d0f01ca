/- The reference's table: New, tick, At, Count. -/
import Derived.Test.YtlkgdnmfgcmldaaDoorLea23
namespace Go.Proofs.YtlkgdnmfgcmldaaDoor
open Go.RowKit Go.Spk
set_option linter.unusedVariables false
/-- The reference's table as a value. -/
def refV (n tt l e : Int) (v : Value) : Value := .agg #[.int .i64 n, .int .i64 tt, .int .i64 l, .int .i64 e, v]
theorem rtick_calls (n : Int) (w : World) : Calls Tryd.prog 40 #[.int .i64 n] w fun e w' => e = .returned (.int .i64 (tickI n)) ∧ w' = w := by
  unfold tickI
  go_enter Tryd.func40, Tryd.ntmps40
  go_wp2_with fail
  all_goals go_ret
  all_goals exact ⟨rfl, rfl⟩
/-- One result, a row laid in memory. -/
theorem results_row {P : Program} {fn : Func} {p : Tmp} {ty : TypeId} (h : fn.results = #[.cell p ty]) (tmps : Array Value) (w : World) (g : Nat) (t : TypeId) (cs : Array Value) (fr : Nat × Nat) (d : TypeDesc)
    (hp : tmps.getD p undef = .pointer (some ⟨g, 0, none⟩)) (hg : w.heap[g]? = some (.cells cs t fr))
    (hu : P.underlying ty = some d) (hd : (match d with | .struct _ | .array _ _ => true | _ => false) = true) (hi : (P.info? ty).map (·.size) = some cs.size) :
    (results fn tmps).run P w = .ok (.agg cs) w := by
  have hp' : tmps[p]?.getD undef = .pointer (some ⟨g, 0, none⟩) := by simpa using hp
  simp [results, h, hp', asAddr, run_loadVar_row w g t ty cs fr d hg hu hd hi]
set_option maxRecDepth 100000 in
theorem rnew_calls (n t l : Int) (w : World) : Calls Tryd.prog 14 #[.int .i64 n, .int .i64 t, .int .i64 l] w fun e w' =>
    e = .returned (refV (max 0 (min n 64)) (max 0 (min t 4096)) (max 1 (min l 1073741824)) 0 (.slice none 0 0)) ∧ Below w.heap.size w w' := by
  go_enter Tryd.func14, Tryd.ntmps14
  go_wp2_with fail
  refine bodyPost_ret_by (results_row (p := 6) rfl _ _ w.heap.size 44 #[.int .i64 (max 0 (min n 64)), .int .i64 (max 0 (min t 4096)), .int .i64 (max 1 (min l 1073741824)), .int .i64 0, .slice none 0 0] (0, 0) _ rfl ?_ Tryd.underlying44 rfl (by kernel_rfl)) rfl ⟨rfl, by go_grown⟩
  exact heap_alloc_new w _
/-- Where a name stands; -1: nowhere. -/
def posL (L : List Lse) (t a : ByteArray) : Int := match L.findIdx? (fun y => !notN t a y) with | some k => (k : Int) | none => -1
theorem posL_yes {L : List Lse} {t a : ByteArray} {k : Nat} {y : Lse} (hy : L[k]? = some y) (hn : notN t a y = false) (hall : ∀ (j : Nat) (z : Lse), j < k → L[j]? = some z → notN t a z = true) : posL L t a = k ∧ lookL L t a = some y := by
  obtain ⟨hk, rfl⟩ := List.getElem?_eq_some_iff.1 hy
  have h1 : L.findIdx? (fun y => !notN t a y) = some k := by
    rw [List.findIdx?_eq_some_iff_getElem]
    refine ⟨hk, by simp [hn], fun j hj => ?_⟩
    simp [hall j _ hj (List.getElem?_eq_getElem (by omega))]
  refine ⟨by unfold posL; rw [h1], ?_⟩
  unfold lookL
  rw [List.find?_eq_some_iff_getElem]
  refine ⟨by simp [hn], k, hk, rfl, fun j hj => ?_⟩
  simp [hall j _ hj (List.getElem?_eq_getElem (by omega))]
theorem posL_no {L : List Lse} {t a : ByteArray} (hall : ∀ (j : Nat) (z : Lse), L[j]? = some z → notN t a z = true) : posL L t a = -1 ∧ lookL L t a = none := by
  have hm : ∀ z ∈ L, notN t a z = true := fun z hz => by
    obtain ⟨j, hj, rfl⟩ := List.mem_iff_getElem.1 hz
    exact hall j _ (List.getElem?_eq_getElem hj)
  have h1 : L.findIdx? (fun y => !notN t a y) = none := by
    rw [List.findIdx?_eq_none_iff]
    intro z hz
    simp [hm z hz]
  refine ⟨by unfold posL; rw [h1], ?_⟩
  unfold lookL
  rw [List.find?_eq_none]
  intro z hz
  simp [hm z hz]
end Go.Proofs.YtlkgdnmfgcmldaaDoor
