/- THE HAND-IN of PolyEdges: whatever key and bytes, poly.Sum of parts near the modulus is the reference's, and the law answers true. -/
import Derived.Test.YtfoljmpphbhobaaDoorCards
import Derived.Test.YtfoljmpphbhobaaDoorTie
import Derived.Test.YtfoljmpphbhobaaDoorTab
import Derived.Test.YtfoljmpphbhobaaDoorErr
import Derived.Test.YtfoljmpphbhobaaDoorSl
import Derived.Test.YtfoljmpphbhobaaDoorLaw4c
import Derived.Deep.Slices
import Derived.ChangeMaps5
namespace Go.Proofs.YtfoljmpphbhobaaDoor.polyEdges
open Go.ChangeShapes Go.WideShapes Go.ChangeAt Go.RowKit Go.Spk

set_option maxRecDepth 100000 in
theorem contract (H : Type) (enc : TypeId × Value → H) (W : World) (base : Nat) (args : Array Value) (ds gs : List (DataW H)) (before : List MemPlace)
    (hval : ∀ (j : Nat) t v, Tryd.f7.params[j]? = some t → args[j]? = some v → Value.okWide Tryd.prog W .any base t v)
    (hW : DataW.Whole enc Tryd.prog Tryd.f7.params.toList Rows.polyEdgesSpec.vars false W args.toList ds gs before) (hL : laidMetH Tryd.prog Rows.polyEdgesRow.laid W) :
    Calls Tryd.prog 7 args W fun e W' => ∃ v, e = .returned v ∧ Rows.polyEdgesSpec.post enc Tryd.prog Tryd.f7 false true false false W args v W' := by
  have hW' := hW
  obtain ⟨p, q, hA0, hV, rfl, hfz, hnd⟩ := hW
  have hA : DataW.TrodAll enc Tryd.prog W 0 (fun _ => true) true Tryd.f7.params.toList args.toList ds p := hA0
  rw [Tryd.params7] at hA hval
  obtain ⟨v0, vs0, d0, ds0, p0, q0, hargs, rfl, rfl, h0, r0⟩ := trodAll_cons hA
  obtain ⟨v1, vs1, d1, ds1, p1, q1, rfl, rfl, rfl, h1, r1⟩ := trodAll_cons r0
  obtain ⟨rfl, rfl, rfl⟩ := trodAll_nil r1
  obtain rfl : args = #[v0, v1] := by cases args; simp_all
  obtain ⟨rfl, rfl⟩ := trodVars_none hV
  obtain ⟨ks, ksl, rfl, rfl, rfl, wks⟩ := open_arr Tryd.underlying22 Tryd.underlying5 cellsu1 cells32 (by decide) h0
  obtain ⟨Azs, zs, capzs, rfl, lzs, Rzs, wzs, shzs⟩ := open_sl Tryd.underlying28 Tryd.underlying5 cellsu1 (okWide_slice Tryd.underlying28 (hval 1 28 v1 rfl rfl)) h1
  clear hA0
  simp only [List.append_nil] at hW'
  obtain ⟨aE, cE⟩ := err_of gErrEnd tErrEnd (laidMet.tail (laidMet.tail hL))
  obtain ⟨aM, cM⟩ := err_of gErrMac tErrMac (laidMet.tail (laidMet.tail (laidMet.tail hL)))
  refine (edges_calls ks Azs zs capzs (U8s_of_mem (u8_wf wzs)) lzs ksl (u8_wf wks) _ _ W Rzs (begin_of hL) (order_of hL) cE cM).mono fun e W' ⟨he, hb'⟩ => ?_
  subst he
  have hs : ∀ sp : Nat → Bool, (∀ p ∈ ([] ++ (p1 ++ ([])) : List MemPlace), sp p.block = true) → DataW.TrodAll enc Tryd.prog W' 0 sp true [22, 28] [.agg (rowI .u8 ks), .slice Azs zs.length capzs] _ ([] ++ (p1 ++ ([]))) :=
    fun sp hsp => trodAll_cons_mk (shut_arr Tryd.underlying22 Tryd.underlying5 cellsu1 cells32 ksl wks) (trodAll_cons_mk (shzs W' sp (fun p hp => hsp p (by simp [hp])) hb') trodAll_mk0)
  exact ⟨_, rfl, post_of_below (pa := [] ++ (p1 ++ ([]))) (pv := []) hW' (fun _ _ _ => trodAll_cons_mk (shut_bool Tryd.underlying4 _) trodAll_mk0) (fun sp h => hs sp (fun p hp => h p (by simpa using hp))) (fun _ _ => rfl) (by simp)
    hb' (ok_one (by kernel_rfl) rfl (okWide_bool_mk Tryd.underlying4 _))⟩

def wit : Array Value := #[.agg (rowI .u8 (List.replicate 32 0)), .slice none 0 0]
theorem laid_met (os : Os) : laidMet Tryd.prog Rows.polyEdgesRow.laid ((errWorld os).forCall (fun _ _ => 0) ⟨#[], wit, []⟩).memory :=
  laidMet_of_run' 8 (by kernel_rfl) (by kernel_rfl)
theorem reads (os : Os) {H : Type} (enc : TypeId × Value → H) : ∃ places, DataW.whole enc Tryd.prog ((errWorld os).forCall (fun _ _ => 0) ⟨#[], wit, []⟩).memory Tryd.f7.params.toList Rows.polyEdgesSpec.vars false wit.toList 8 =
    some ([.agg (List.replicate 32 (.lit (.int .u8 0))), .nil], [], places) :=
  ⟨[], by kernel_rfl⟩

set_option maxRecDepth 100000 in
theorem lifted (os : Os) (started : os.Started) (H : Type) (enc : TypeId × Value → H) (F : Stop.Interp) :
    ReturnsInHanded {} Tryd.checked os 7 .any ((OpenSpec.ofChange Rows.polyEdgesSpec).preRow enc Tryd.prog Tryd.f7 Rows.polyEdgesRow.domain false Rows.polyEdgesRow.laid) (((OpenSpec.ofChange Rows.polyEdgesSpec).at F).post enc Tryd.prog Tryd.f7 false true false false) := by
  obtain ⟨places, hx⟩ := reads os enc
  refine returnsInHanded_of_row (C := Tryd.checked) (s := OpenSpec.ofChange Rows.polyEdgesSpec) own started (by kernel_rfl) Tryd.func7
    (witness_row_at (enc := enc) (C := Tryd.checked) false (errWorld os) wit rfl (by kernel_rfl) (by kernel_rfl) (by kernel_rfl)
      (OpenSpec.preRow_of_cond 8 hx (by kernel_rfl) (fun k hk => by cases hk) (by kernel_rfl) (laid_met os))) ?_
  intro W base args ds gs before hval hW _ _ _ hL _ _
  exact contract H enc W base args ds gs before hval hW hL

theorem said : Rows.PolyEdgesSaid :=
  OpenClaim.holds_of_cond 7 Tryd.f7 rfl rfl rfl rfl rfl rfl rfl ⟨rfl, rfl, rfl, rfl, rfl⟩ rfl rfl rfl rfl rfl (by kernel_rfl) Tryd.func7 (by kernel_rfl)
    (of_decide_eq_true (by kernel_rfl)) (by unfold Func.isWrapper; first | (rw [if_pos (by decide +kernel)]; kernel_rfl) | (rw [if_neg (by decide +kernel)]; exact ⟨rfl, rfl⟩))
    (fun os started H enc _ F => by rw [OpenClaim.pre_eq_preRow]; exact lifted os started H enc F)

theorem plain (f : FuncId) (fn : Func) (hf : Tryd.pinned.checked.prog.funcNamed "speakeasy/speakeasylaw04.PolyEdges" = some f) (hfn : Tryd.pinned.checked.prog.funcs[f]? = some fn) :
    true = Tryd.pinned.checked.prog.looks [] ∧ ∀ (j : Nat) t, fn.params[j]? = some t → Tryd.pinned.checked.prog.wantsStandIn t = false := by
  obtain rfl : f = 7 := Option.some.inj ((show Tryd.prog.funcNamed "speakeasy/speakeasylaw04.PolyEdges" = some 7 by kernel_rfl).symm.trans hf) |>.symm
  obtain rfl : fn = Tryd.f7 := (Option.some.inj (Tryd.func7.symm.trans hfn)).symm
  refine ⟨by kernel_rfl, fun j t ht => ?_⟩
  rw [Tryd.params7] at ht
  have hm := Array.mem_of_getElem? ht
  have hall : ∀ t ∈ (#[22, 28] : Array TypeId), Tryd.prog.wantsStandIn t = false := by
    intro t ht
    simp only [List.mem_toArray, List.mem_cons, List.not_mem_nil, or_false] at ht
    rcases ht with rfl | rfl
    all_goals kernel_rfl
  exact hall t hm

theorem card : Rows.PolyEdgesCardSaid :=
  Claim7.holds_tied_plain_at .later [] _ _ _ _ said (fun _ h => by cases h) (by kernel_rfl) (fun _ h => by cases h) polyEdges_row_tie rfl ⟨rfl, rfl⟩ (by kernel_rfl) rfl plain (by kernel_rfl)
end Go.Proofs.YtfoljmpphbhobaaDoor.polyEdges
