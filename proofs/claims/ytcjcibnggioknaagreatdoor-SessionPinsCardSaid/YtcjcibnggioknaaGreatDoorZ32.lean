/- Lemmas on which SessionPins rests. -/
import Derived.Test.YtcjcibnggioknaaGreatDoorZ31
set_option maxRecDepth 100000
set_option maxHeartbeats 40000000
set_option linter.unusedVariables false
open Go.RowKit Go.Spk
open Go.Proofs.Tryz
namespace Go.Proofs.P
abbrev FJ:List Nat:= [1,1,1,1,32,32]
theorem VU:In ⟨#[99]⟩ ⟨#[115]⟩ ⟨#[97]⟩ ⟨#[98]⟩ sV (lX sV) 0=⟨{oA true wF.ml wF.kJ av wF.key 0 with waits:= []},oA false wF.lT wF.kU wF.host av 0,⟨#[]⟩,⟨#[]⟩,[],[],none,none⟩:=by
 rw[show lX sV=wF.key from LitA.tK]
 rfl
abbrev px0(W:World)(y:PB)(p:fe):PX:=⟨yv W y p ⟨[],0,(none,0,0),(none,0,0),.nilIface,.nilIface⟩,0,(none,0,0),(none,0,0),.nilIface,.nilIface⟩
theorem Ua{E:gn}{w:ay}(n:Env w E)(b:30<=w.heap.size):Calls prog 4 #[] w λr O=>r= .returned (.bool true)/\Below w.heap.size w O:=by
 obtain⟨k,C,o⟩:=MY EQ UL Am.nil;rw[<-VU]at o;obtain⟨R,d⟩:∃R:fe,Hid (R=⟨wF.c3 wF.key 0,wF.s3 0,⟨#[]⟩,⟨#[]⟩,[],[],none,none⟩):=⟨_,aa rfl⟩;have D:=aa (by rw[d.out];exact o:iK (1<= ·) k 0 _ R);obtain⟨H,t⟩:=eZ (wF.hash);obtain⟨K,u⟩:=eZ (wF.key);have F:=aa (by rw[d.out,t.o,u.o];rfl:fM (qh R.c) R.c.gone R.c.c7 R.c.waits.length R.c.id R.c.key=fM true false 1 0 H K);have G:=aa (by rw[d.out,t.o,u.o];rfl:fM (qh R.s) R.s.gone R.s.c7 R.s.waits.length R.s.id R.s.key=fM true false 1 0 H K);have f:H.length=32:=by rw[t.o];exact EQ.Db.1
 have Q:K.length=32:=by rw[u.o];exact EQ.Cf.1
 have S:=aa C;have U:=aa n;have z:=aa b;obtain⟨P,I⟩:=eZ (In ⟨#[99]⟩ ⟨#[115]⟩ ⟨#[97]⟩ ⟨#[98]⟩ sV (lX sV) 0);have J:=aa (λW (a:Below w.heap.size w W)=>abf (n.below a) (ap b a.size) ⟨#[97]⟩ ⟨#[98]⟩ an an 0);rw[<-I.o]at J D;clear C o n b;refine TC.enter func4 ntmps4 [] [] (Hp.nil _ _) ?_;refine T.one 0 (TO.cf (vf:=λy:PB=> .tuple #[.pointer (some ⟨y.gp,0,none⟩),.bool true]) (p:=λy j g V=>nP E P y j g V/\w.heap.size<=j) (λy j g W L h X Y=>⟨h.1.loc _ _ _ _ _ _ X Y,h.2⟩) (λW a=>(J.o W a.below).mono λr L ⟨y,Z,h2,h3⟩=>⟨y,Z,⟨h2,a.base.size⟩,h3⟩) (hgo:=λ_ _ _ k=>k) λy j g=> ?_)
 iterate 5 refine T.q _ ?_
 refine T.fin ?_;refine TE.Ph ?_;refine TC.base (M':=λ_=>y.M) (s':=λW=>xN E W y P (px0 W y P)) (λW a=> ?_) (λW a=> ?_)
 .have h:=(a.en _ (ah (i:=0) rfl)).1;have g:=λm hm=>a.ins _ (ah (i:=0) rfl) m (h.lo m hm);rw[I.o]at h⊢;exact nP.hp h g
 have l:PW E w W y:=(a.en _ (ah (i:=0) rfl)).1.pw U.o z.o a.below (a.en _ (ah (i:=0) rfl)).2;unfold xN yv;refine go ?_;refine T.one 1 (TO.hp (vf:=λ_=> .tuple #[]) (hgo:=λ_ k=>k) (λL A=>DU (N:=(1<= ·)) l an k S.o D.o A) λx=> ?_);refine T.fin ?_;refine TE.Ph ?_;refine TC.rz ?_;refine TC.rg [] ?_;refine T.rk 4 (v:= .agg (fM true false 1 0 H K)) (λW B e=>F.o▸e.c.vars) ?_;refine T.fc 5 0 FJ ?_;refine T.rk 11 (v:= .agg (fM true false 1 0 H K)) (λW B e=>G.o▸e.s.vars) ?_;refine T.fc 12 0 FJ ?_;refine T.rk 19 (v:= .agg (fM true false 1 0 H K)) (λW B e=>F.o▸e.c.vars) ?_;refine T.fr 20 4 FJ ?_;refine T.rk 25 (v:= .agg (fM true false 1 0 H K)) (λW B e=>G.o▸e.s.vars) ?_;have he:=λw=>sn f f w;refine T.fr 26 4 FJ ?_;refine TE.rv λW a=>⟨rfl,l.Jw.trans (a.base.below l.Jw.size l.lo)⟩
end Go.Proofs.P
