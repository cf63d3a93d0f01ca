/- SessionPins of speakeasylaw15: whatever 32 bytes and whatever flag it is given, the call answers true, and what it was given reads as it did. Conditions: those of the given row alone. -/
import Derived.ChangeMaps5
import Derived.Deep.Slices
import Derived.Test.YtcjcibnggioknaaGreatDoorCards
import Derived.Test.YtcjcibnggioknaaGreatDoorTie
import Derived.Test.YtcjcibnggioknaaGreatDoorZ33
set_option maxRecDepth 100000
set_option maxHeartbeats 40000000
set_option linter.unusedVariables false
open Go.RowKit Go.Spk
open Go.Proofs.Tryz
namespace Go.Proofs.YtcjcibnggioknaaGreatDoor.sessionPins
open Go.Proofs.P
open Go.ChangeShapes Go.WideShapes Go.ChangeAt
theorem Qn(H:Type)(enc:TypeId×Value->H)(W:ay)(base:Nat)(args:gJ)(ds gs:List (DataW H))(before:List MemPlace)
 (hval:∀(j:Nat) t v,f3.params[j]?=some t->args[j]?=some v->Value.okWide prog W .any base t v)
 (hW:DataW.Whole enc prog f3.params.toList Rows.sessionPinsSpec.vars false W args.toList ds gs before) (hL:laidMetH prog Rows.sessionPinsRow.laid W) (hS:W.ShapedOpen prog):
 Calls prog 3 args W λe W'=> ∃v,e= .returned v/\Rows.sessionPinsSpec.post enc prog f3 false true false false W args v W':=by
 have hW':=hW;obtain⟨p,q,hA0,hV,rfl,hfz,hnd⟩:=hW;have hA:DataW.TrodAll enc prog W 0 (λ_=>true) true f3.params.toList args.toList ds p:=hA0;rw[params3]at hA hval;obtain⟨v0,vs0,d0,ds0,p0,q0,hargs,rfl,rfl,h0,r0⟩:=trodAll_cons hA;obtain⟨v1,vs1,d1,ds1,p1,q1,rfl,rfl,rfl,h1,r1⟩:=trodAll_cons r0;obtain⟨rfl,rfl,rfl⟩:=trodAll_nil r1;obtain rfl:args= #[v0,v1]:=by cases args;simp_all
 obtain⟨rfl,rfl⟩:=trodVars_none hV;obtain⟨rZ,pinl,rfl,rfl,rfl,wpin⟩:=RM underlying22 underlying5 Ma L9 an h0;obtain⟨abU,rfl,rfl,rfl⟩:=open_bool underlying4 (hval 1 4 v1 rfl rfl) h1;clear hA0;simp only[List.append_nil]at hW';obtain⟨E,en,het⟩:=Sd hS hL;refine(Zq en (Wu hS) het rZ ⟨pinl,cm (abh wpin)⟩ abU).mono λe W' ⟨he,hg⟩=> ?_;subst he
 have hs:∀(W':World) (b:Nat) (sp:Nat->Bool) (hd:Bool),DataW.TrodAll enc prog W' b sp hd [22,4] [.agg (ai .u8 rZ),.bool abU] _ []:=
  λW' b sp hd=>trodAll_cons_mk (SL underlying22 underlying5 Ma L9 pinl wpin) (trodAll_cons_mk (shut_bool underlying4 _) trodAll_mk0)
 exact⟨_,rfl,CD (pa:= []) (pv:= []) hW' (λ_ _ _=>trodAll_cons_mk (shut_bool underlying4 _) trodAll_mk0) (λ_ _=>hs _ _ _ _) (λ_ _=>rfl) rfl
  hg (ok_one al rfl (okWide_bool_mk underlying4 _))⟩
def wit:Array Value:= #[.agg (ai .u8 (List.replicate 32 0)),.bool false]
theorem Re(os:Os):laidMetH prog Rows.sessionPinsRow.laid ((Bv os).forCall (λ_ _=>0) ⟨#[],wit,[]⟩).memory:=
 laidMetH_of_parts (laidMet_of_run' 8 al al) al
theorem reads(os:Os){H:Type}(enc:TypeId×Value->H):∃places,DataW.whole enc prog ((Bv os).forCall (λ_ _=>0) ⟨#[],wit,[]⟩).memory f3.params.toList Rows.sessionPinsSpec.vars false wit.toList 8=
 some ([.agg (List.replicate 32 (.lit (.int .u8 0))),.lit (.bool false)],[],places):=
 ⟨[],al⟩
theorem lifted(os:Os)(started:os.Started)(H:Type)(enc:TypeId×Value->H)(F:Stop.Interp):
 ReturnsInHanded {} checked os 3 .any ((OpenSpec.ofChange Rows.sessionPinsSpec).preRow enc prog f3 Rows.sessionPinsRow.domain false Rows.sessionPinsRow.laid) (((OpenSpec.ofChange Rows.sessionPinsSpec).at F).post enc prog f3 false true false false):=by
 obtain⟨places,hx⟩:=reads os enc
 refine returnsInHanded_of_row (C:=checked) (s:=OpenSpec.ofChange Rows.sessionPinsSpec) own started al func3
  (
   witness_row_at (enc:=enc) (C:=checked) false (Bv os) wit rfl al al al
   (OpenSpec.preRow_of_cond 8 hx al (λk hk=>by cases hk) al (Re os))) ?_
 intro W base args ds gs before hval hW _ _ _ hL hS _;exact Qn H enc W base args ds gs before hval hW hL hS
theorem said:Rows.SessionPinsSaid:=
 OpenClaim.holds_of_cond 3 f3 rfl rfl rfl rfl rfl rfl rfl ⟨rfl,rfl,rfl,rfl,rfl⟩ rfl rfl rfl rfl rfl al func3 Iq
  (qy al) (by unfold Func.isWrapper;first|(rw[aJ (by decide+kernel)];kernel_rfl)|(rw[aq (by decide+kernel)];exact⟨rfl,rfl⟩))
  (λos started H enc _ F=>by rw[OpenClaim.pre_eq_preRow];exact lifted os started H enc F)
theorem plain(f:FuncId)(fn:Func)(hf:Tryz.pinned.checked.prog.funcNamed "speakeasy/speakeasylaw15.SessionPins"=some f)(hfn:Tryz.pinned.checked.prog.funcs[f]?=some fn):
 true=Tryz.pinned.checked.prog.looks []/\ ∀(j:Nat) t,fn.params[j]?=some t->Tryz.pinned.checked.prog.wantsStandIn t=false:=by
 obtain rfl:f=3:=iU ((show prog.funcNamed "speakeasy/speakeasylaw15.SessionPins"=some 3 by kernel_rfl).symm.trans hf)|>.symm;obtain rfl:fn=f3:=(iU (func3.symm.trans hfn)).symm;refine⟨al,λj t ht=> ?_⟩;rw[params3]at ht;have hm:=Array.mem_of_getElem? ht
 have hall:∀t∈(#[22,4]:Array TypeId),prog.wantsStandIn t=false:=by
  intro t ht;simp only[List.mem_toArray,List.mem_cons,List.not_mem_nil,or_false]at ht;rcases ht with rfl|rfl
  all_goals kernel_rfl
 exact hall t hm
theorem card:Rows.SessionPinsCardSaid:=
 Claim7.holds_tied_plain_at .later [] _ _ _ _ said (λ_ h=>by cases h) al (λ_ h=>by cases h) sessionPins_row_tie rfl ⟨rfl,rfl⟩ al rfl plain al
end Go.Proofs.YtcjcibnggioknaaGreatDoor.sessionPins
