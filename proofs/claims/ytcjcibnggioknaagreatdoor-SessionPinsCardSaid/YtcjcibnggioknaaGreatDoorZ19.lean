/- Lemmas on which SessionPins rests. -/
import Derived.Test.YtcjcibnggioknaaGreatDoorZ18
set_option maxRecDepth 100000
set_option maxHeartbeats 40000000
set_option linter.unusedVariables false
open Go.RowKit Go.Spk
open Go.Proofs.Tryz
namespace Go.Proofs.P
structure Ctx(E:Nat->Addr)(w0:World)(g:Nat)(w:World):Prop where
 UB:Env w0 E
 below:Below w0.heap.size w0 w
 at_:w0.heap.size<=g
 Nu:30<=w0.heap.size
section
variable {E:Nat->Addr}{w0 w w':World}{g:Nat}
theorem Ctx.env(h:Ctx E w0 g w):Env w E:=h.UB.below h.below
theorem Ctx.hg(h:Ctx E w0 g w):30<=g:=ap h.Nu h.at_
theorem Ctx.hw(h:Ctx E w0 g w):30<=w.heap.size:=ap h.Nu h.below.size
theorem Ctx.only(h:Ctx E w0 g w)(k:w.grownBy w' (some g)):Ctx E w0 g w':=
 ⟨h.UB,h.below.grown k h.below.size (λq a=>by injection a with a;subst a;exact h.at_),h.at_,h.Nu⟩
theorem Ctx.iC(h:Ctx E w0 g w)(k:Below w.heap.size w w'):Ctx E w0 g w':=⟨h.UB,h.below.trans (k.mono h.below.size),h.at_,h.Nu⟩
end
def mH(E:Nat->Addr)(w:World)(k:Nat)(v:Value):Prop:=v=bM (E k)\/ ∃p s,v=dl p/\Whole w p 86 #[.string s,bM (E k)]
def CT(E:Nat->Addr)(w:World)(k:Nat)(v:Value):Prop:=mH E w k v\/ ∃p q s t,v=dl p/\Whole w p 86 #[.string s,dl q]/\Whole w q 86 #[.string t,bM (E k)]
section
variable {E:Nat->Addr}{w w':World}{k:Nat}{v:Value}
theorem mH.bare:mH E w k (bM (E k)):= .inl rfl
theorem mH.isK(h:mH E w k v)(a:k<20)(b:ts w E):BS E v k w:=by
 rcases h with rfl|⟨p,s,rfl,c⟩
 .exact BS.bare a b
 .exact BS.fault a b (by rw[c.at_];rfl)
theorem CT.isK(h:CT E w k v)(a:k<20)(b:ts w E):BS E v k w:=by
 rcases h with h|⟨p,q,s,t,rfl,c,d⟩
 .exact h.isK a b
 .exact BS.YG a b (by rw[c.at_];rfl) (by rw[d.at_];rfl)
theorem mH.form(h:mH E w k v):∃T x,v= .iface T x:=by
 rcases h with rfl|⟨p,s,rfl,a⟩
 .exact⟨_,_,rfl⟩
 .exact⟨_,_,rfl⟩
theorem mH.mz(h:mH E w k v){L}(b:ci L w w')(c:∀p d,Whole w p 86 d->p∉L):mH E w' k v:=by
 rcases h with rfl|⟨p,s,rfl,a⟩
 .exact .inl rfl
 .exact .inr ⟨p,s,rfl,b.whole a (c _ _ a)⟩
theorem CT.mz(h:CT E w k v){L}(a:ci L w w')(b:∀p e,Whole w p 86 e->p∉L):CT E w' k v:=by
 rcases h with h|⟨p,q,s,t,rfl,c,d⟩
 .exact .inl (h.mz a b)
 .exact .inr ⟨p,q,s,t,rfl,a.whole c (b _ _ c),a.whole d (b _ _ d)⟩
theorem mH.below(h:mH E w k v)(a:Below w.heap.size w w'):mH E w' k v:=h.mz (ci.cL a []) (λ_ _ _ h=>by cases h)
end
def rR:ByteArray:=⟨#[115,101,115,115,105,111,110]⟩
def sc(E:Nat->Addr)(w:World)(k:Nat)(p:Nat):Prop:= ∃v,Whole w p 86 #[.string rR,v]/\mH E w k v
theorem sc.at_{E}{w}{k p}(h:sc E w k p):CT E w k (dl p):=by
 obtain⟨v,a,b⟩:=h;rcases b with rfl|⟨q,s,rfl,c⟩
 .exact .inl (.inr ⟨p,rR,rfl,a⟩)
 .exact .inr ⟨p,q,rR,s,rfl,a,c⟩
structure Room(s:aX):Prop where
 wn:s.wn<=1000000000
 out:s.out.size<=1000000000000000
 since:s.since<=1000000000000000
section
variable {E:Nat->Addr}{w0 w:World}{g gh:Nat}{vw re:Value}{s:aX}
theorem YF(cx:Ctx E w0 g w)(a:bC s)(h:cP w g gh vw re .nilIface s)(hgo:s.gone=false)(k:Nat)(P:k<20)(v:cH)(hv:mH E w k v)(q:Room s):
 Calls prog 79 #[.pointer (some ⟨g,0,none⟩),v] w λr w'=> ∃p,r= .returned (dl p)/\w.heap.size<=p/\sc E w' k p/\cP w' g gh vw re (dl p) (jy s k)/\w.grownBy w' (some g):=by
 have t:=cx.env.gY;have Q:w.cell? ⟨17,0,none⟩=some (bM (E 17)):=t.var 17 af;have u:=hv.isK P t;obtain⟨T,x,rfl⟩:=hv.form;have d:∀p o,Whole w p 86 o->p≠g:=λp o z=>fW z h an
 by_cases A:k=17
 .subst A;have y:=u.yes af;have c:jy s 17={s with gone:=true}:=by unfold jy;rw[aJ rfl]
  have f:cP _ g gh vw re .nilIface s:=h.below ((aw w.heap.size w).alloc (ak _) (.cells #[.string rR,.iface T x] 86)) h.inside;have c1:=f.Xs a;have U:=Lay.free f 478;have l:=aa (f.s_e a (dl w.heap.size));have b:w.grownBy ((w.alloc (.cells #[.string rR,.iface T x] 86)).setCell ⟨g,478,none⟩ (dl w.heap.size)) (some g):=aZ (eK w _ _) (aY _ rfl _);have B:=aa b;have C:=aa (show Whole ((w.alloc (.cells #[.string rR,.iface T x] 86)).setCell ⟨g,478,none⟩ (dl w.heap.size)) w.heap.size 86 #[.string rR,.iface T x]from(Whole.made w _ _).only (aY _ rfl _) (bE (eq h.inside)));have I:=aa (hv.mz (ci.bZ b) (λp o z K=>d p o z (ar.1 K)));have c2:=l.o.Xs a;rw[c];unfold dl at c2 l C I B⊢;clear f b t u hv h cx q d;unfold bM at y Q
  go_enter func79,ntmps79
  go_wp2_with fail
  refine y.mono ?_;rintro e W ⟨rfl,rfl⟩
  go_wp2_with fail
  refine(oF rR T x _).mono ?_;rintro e W ⟨rfl,rfl⟩
  go_wp2_with fail
  go_ret
  exact⟨_,rfl,ak _,⟨_,C.o,I.o⟩,l.o,B.o⟩
 .have n:=u.no (i:=17) af af;have D:=aa (Sp E (.iface T x) k P w t u);have G:pJ k<4294967296:=by unfold pJ;(repeat' split)<;>decide
  have c:jy s k={l6 s (jU (pJ k))with gone:=true}:=by
   unfold jy EJ;rw[aq A,hgo]
   rfl
  have H:=aa (Uv E cx.env a h (pJ k) G q.wn q.out q.since cx.hg);obtain⟨R,S⟩:=aP (pJ k);rw[<-S]at H D c;have I:=aa hv;have L:=aa d;have V:=aa h.inside;have m:=aa (show bC {l6 s (jU R)with gone:=true}from⟨a.host,a.rZ,a.wk,a.rk,a.iv,a.nv,a.mh,a.iH,a.lQ,a.lR,a.gA,a.iG,a.id,a.key⟩);rw[c];generalize({l6 s (jU R)with gone:=true}:aX)=F at*;clear t u hv h cx q d c G S a;unfold bM at n Q;unfold dl
  go_enter func79,ntmps79
  go_wp2_with fail
  refine n.mono ?_;rintro e W ⟨rfl,rfl⟩
  go_wp2_with fail
  refine D.o.mono ?_;rintro e W ⟨rfl,rfl⟩
  go_wp2_with fail
  refine H.o.mono ?_;rintro e j ⟨rfl,J,M⟩;have f:cP _ g gh vw re _ F:=J.below ((aw j.heap.size j).alloc (ak _) (.cells #[.string rR,.iface T x] 86)) J.inside;have c1:=f.Xs m.o;have U:=Lay.free f 478;have l:=aa (f.s_e m.o (dl j.heap.size));have b:=aZ M (aZ (eK j (.cells #[.string rR,.iface T x] 86) (some g)) (aY ⟨g,478,none⟩ rfl (dl j.heap.size)));have B:=aa b;have C:=aa (show Whole ((j.alloc (.cells #[.string rR,.iface T x] 86)).setCell ⟨g,478,none⟩ (dl j.heap.size)) j.heap.size 86 #[.string rR,.iface T x]from(Whole.made j _ _).only (aY _ rfl _) (bE (eq J.inside)));have N:=aa (I.o.mz (ci.bZ b) (λp o z K=>L.o p o z (ar.1 K)));have O:=aa M.size;have c2:=l.o.Xs m.o;unfold dl at c2 l C B;clear f b J M
  go_wp2_with fail
  refine(oF rR T x _).mono ?_;rintro e W ⟨rfl,rfl⟩
  go_wp2_with fail
  go_ret
  exact⟨_,rfl,O.o,⟨_,C.o,N.o⟩,l.o,B.o⟩
end
end Go.Proofs.P
namespace Go.Spk
open Go.Proofs.P
abbrev sE(g gh:Nat)(vw re e:Value)(s:aX):En:=bl 0 g true (kL 77 FA) (eY gh vw re e s)
end Go.Spk
namespace Go.Proofs.P
section
variable {E:Nat->Addr}{w0 w W:World}{g gh:Nat}{vw re e e':Value}{s s':aX}{r:List En}
theorem cP.hp(h:cP w g gh vw re e s)(a:bC s):Hp w [g] [sE g gh vw re e s] w:=(Hp.nil _ _).cons ⟨iQ a,h⟩ (λ_ e=>e▸Lay.inside h) (λ_ _ e=>e▸ .head _) (λ_ h=>by cases h)
theorem Ctx.grow(cx:Ctx E w0 g w)(h:ci [g] w W):Ctx E w0 g W:=Ctx.only cx ⟨h.os,h.tape,h.output,h.size,λi a b=>h.block i a (by intro c;obtain rfl:=ar.1 c;exact b rfl)⟩
theorem Ctx.hp{t:List En}(cx:Ctx E w0 g w)(h:Hp w [g] t W):Ctx E w0 g W:=cx.grow h.base
theorem cP.hr(h:cP w g gh vw re e s)(a:bC s):Hp w [] [bl 0 g false (kL 77 FA) (eY gh vw re e s)] w:=(Hp.nil _ _).cons ⟨iQ a,h⟩ (λ_ e=>e▸Lay.inside h) (λh=>by cases h) (λ_ h=>by cases h)
end
end Go.Proofs.P
namespace Go.Spk
open Go.Proofs.P
section
variable {E:Nat->Addr}{w0 w W:World}{g gh:Nat}{vw re e e':Value}{s s':aX}{r:List En}
theorem eF{M}{m}(h:Hp w M (bl 0 g m (kL 77 FA) (eY gh vw re e s)::r) W):cP W g gh vw re e s:=(h.en _ (.head _)).2
theorem TO.BZ{cl}{G:Prop}{P}{dr}{ops}{l}{X}{n}{a a'}{o}{v}{K}{c}{args}(d:bC s')(f:∀W,Hp w [g] (sE g gh vw re e s::r) W->Calls P c args W λr W'=>r= .returned v/\cP W' g gh vw re e' s'/\W.grownBy W' (some g))(h:G)
 (i:ops[n]?=some o:=by rfl) (j:ip P dr ops l cl=true:=by decide+kernel) (m:Region.wanted o (yielded ops a.tmps)=true:=by rfl) (b:gu P o=false:=by rfl) (p:∀W,(execOp a.eval o).run P W= .ok (.enter c args) W:=by(intro W;go_simp;first|done|rfl)) (q:dr=true->er (xo X n) 0 (eY gh vw re e' s')=er (xo X n) 0 (eY gh vw re e s):=by first|(intro h;cases h;done)|(intro _;kernel_rfl)) (t:a.put o.dst v=a':=by(go_simp;first|done|rfl))
 (hgo:G->K a' (sE g gh vw re e' s'::r):=by(intro k;refine go ?_;exact k)):TO cl P dr ops l w [g] X n K a (sE g gh vw re e s::r):=
 TO.call j 0 rfl (λW u=>(f W u).mono λr W' ⟨x,y,z⟩=>⟨x,⟨iQ d,y⟩,ci.bZ z⟩) (hgo h) i m b p q t
theorem Hp.uT{ps}(h:Hp w [g] (bl 0 g true (kL 77 FA) ps::r) W)(e1:ps=eY gh vw re e s):cP W g gh vw re e s/\w.grownBy W (some g):=by
 subst e1;exact⟨eF h,⟨h.base.os,h.base.tape,h.base.output,h.base.size,λi a b=>h.base.block i a (by intro c;obtain rfl:=ar.1 c;exact b rfl)⟩⟩
end
structure Jl(w:World):Prop where
 rows:m0 w
 pX:w.rangeAt 25 0 (fG.map (Value.int .u32))
 order:w.rangeAt 26 0 j9
 words:dt w
 first:dJ w
end Go.Spk
namespace Go.Proofs.P
theorem Env.acv{w:ay}{E:gn}(h:Env w E):Jl w:=⟨h.rows,h.pX,h.order,h.words,h.first⟩
end Go.Proofs.P
namespace Go.Spk
open Go.Proofs.P
theorem pI{L}{w W}{b o}{cs}(h:w.rangeAt b o cs)(k:ci L w W)(a:b∉L):W.rangeAt b o cs:=λj v c=>k.cell (h j v c) a
theorem Jl.grow{L}{w W}(h:Jl w)(k:ci L w W)(a:∀m∈L,30<=m):Jl W:=
 have n:∀b,b<30->b∉L:=λb d c=>by have:=a b c;omega
 ⟨k.whole h.rows (n _ an),pI h.pX k (n _ an),pI h.order k (n _ an),pI h.words k (n _ an),pI h.first k (n _ an)⟩
theorem Jl.hp{w W}{g}{t}(h:Jl w)(a:30<=g)(k:Hp w [g] t W):Jl W:=h.grow k.base (λm b=>by obtain rfl:=ar.1 b;exact a)
section
variable {P:Nat->Prop}{W W':World}
abbrev Sl4:=(Option Addr×Nat×Nat)×(Option Addr×Nat×Nat)×(Option Addr×Nat×Nat)×(Option Addr×Nat×Nat)
abbrev abX(k:Nat)(x:Sl4):Array Value:=dP k (sl x.1) (sl x.2.1) (sl x.2.2.1) (sl x.2.2.2)
def j6(m:de)(x:Sl4)(a b:Nat)(W:World):Prop:=mV (λi=>a<=i/\i<b) W (sl x.1) (sl x.2.1) (sl x.2.2.1) (sl x.2.2.2) m
theorem j6.loc(m:de)(x:Sl4)(c d:Nat)(W W':ay)(h:j6 m x c d W)(a:∀k,c<=k/\k<d->W'.heap[k]?=W.heap[k]?)(b:W.heap.size<=W'.heap.size):j6 m x c d W':=
 ⟨iB.loc h.U a b,iB.loc h.S a b,by obtain⟨e,f,g⟩:=h.N;exact⟨e,iB.loc f a b,sQ.loc a b g⟩,iB.loc h.B a b⟩
theorem pR{P}{w}{v}{cs}(h:iB P w v cs):iB (λi=>P i/\i<w.heap.size) w v cs:=h.imp id (λ⟨g,o,c,b,d,e,a⟩=>⟨g,o,c,b,d,⟨e,a.1⟩,a⟩)
theorem DO{P:Nat->Prop}{w:World}:∀{vs:List Value} {L:List (List ByteArray)},sQ P w vs L->sQ (λi=>P i/\i<w.heap.size) w vs L
 | [],[],_=>trivial
 |_::_,_::_,h=>⟨pR h.1,DO h.2⟩
 | [],_::_,h=>h.elim
 |_::_,[],h=>h.elim
theorem iB.form{v}{cs}(h:iB P W v cs):∃x,v=sl x:=by
 rcases h with⟨_,A,c,h⟩|⟨g,o,c,h,_⟩
 .exact⟨(_,_,_),h⟩
 .exact⟨(_,_,_),h⟩
theorem j6.of{g}{j vs k l}{m}(h:mV (λi=>g<=i) W j vs k l m):∃x:Sl4,(j=sl x.1/\vs=sl x.2.1/\k=sl x.2.2.1/\l=sl x.2.2.2)/\j6 m x g W.heap.size W:=by
 obtain⟨a,e⟩:=iB.form h.U;obtain⟨b,f⟩:=iB.form h.S;obtain⟨c,n⟩:=iB.form h.N.choose_spec.1;obtain⟨d,o⟩:=iB.form h.B;refine⟨(a,b,c,d),⟨e,f,n,o⟩,?_⟩;subst e f n o;exact⟨pR h.U,pR h.S,by obtain⟨p,e,f⟩:=h.N;exact⟨p,pR e,DO f⟩,pR h.B⟩
end
def xl(w:World)(a:Addr):Nat:=match w.cell? a with
 |some (.slice _ n _)=>n
 |_=>0
theorem Bx{w:ay}{a:Addr}{A:Option Addr}{n c:Nat}(h:w.cell? a=some (.slice A n c)):xl w a=n:=by unfold xl;rw[h]
end Go.Spk
namespace Go.Proofs.P
def Pw(Kw:Nat->Prop)(g gh b:Nat):Prop:=b≠g/\b≠gh/\Kw b
structure rx(s:aX):Prop where
 every:s.every=0
 gone:s.gone=false
 wn:s.wn+s.waits.length<=1000000000
 out:s.out.size+40000*s.waits.length<=1000000000000000
 since:s.since+s.waits.length<=1000000000000000
 each:∀p∈s.waits,1<=p.size/\p.size<=32768
theorem vB(n:Nat)(s:aX)(h:s.waits= []\/s.c7=0\/s.on.iD=true):lV n s=s:=by
 cases n with
 |zero=>rfl
 |succ n=>
  show(if _ then _ else _)=s
  split
  .rename_i a;rcases h with h|h|h
   .rw[h]
   .omega
   .rw[h]at a;exact absurd a.2.2 an
  .rfl
theorem J3(s:aX)(p:bB)(r:eL)(a:s.waits=p::r)(b:0<s.c7)(c:s.on.iD=false)(hf:rx s):lV s.waits.length s=lV r.length {nR s p with waits:=r}:=by
 rw[a];show(if s.gone=false/\0<s.c7/\s.on.iD=false then _ else _)=_;rw[if_pos ⟨hf.gone,b,c⟩,a];dsimp only;rw[if_neg];intro h;have d:0<s.every:=h.1;rw[hf.every]at d;omega
theorem DT(s:aX)(p:bB)(a:p.size<=32768):(nR s p).out.size<=s.out.size+40000:=by
 have b:(strOfNums (aV s.wb s.wk s.wn (bI p))).size<=40000:=by
  have:=oK s.wb (bI p).length;rw[aj]at this;rw[bG,jM,aj];unfold se vQ
  split<;>omega
 show(s.out++strOfNums (aV s.wb s.wk s.wn (bI p))).size<=_;rw[aN];omega
theorem rx.step{s:aX}{p:bB}{r:eL}(a:s.waits=p::r)(hf:rx s):rx {nR s p with waits:=r}:=by
 have b:=hf.wn;have c:=hf.out;have d:=hf.since;have e:=hf.each p (by rw[a];simp);rw[a,fw]at b c d;have g:=DT s p e.2;exact⟨hf.every,hf.gone,by show s.wn+1+r.length<=_;omega,by show(nR s p).out.size+40000*r.length<=_;omega,by show s.since+1+r.length<=_;omega,λq f=>hf.each q (by rw[a];exact cj _ f)⟩
theorem rx.room{s:aX}(hf:rx s):Room s:=⟨by have:=hf.wn;omega,by have:=hf.out;omega,by have:=hf.since;omega⟩
theorem bC.packed{s:aX}(a:bC s)(p:bB)(r:eL):bC {nR s p with waits:=r}:=⟨a.host,a.rZ,a.wk,a.rk,a.iv,a.nv,a.mh,a.iH,a.lQ,a.lR,a.gA,a.iG,a.id,a.key⟩
structure Flu(Kw:Nat->Prop)(w:World)(g gh:Nat)(re:Value)(s:aX)(F:aX)(W:World)(s':aX)(vw:Value):Prop where
 B:cP W g gh vw re .nilIface s'
 S:iB (Pw Kw g gh) W vw (s'.waits.map Value.string)
 F:lV s'.waits.length s'=F
 G:w.grownBy W (some g)
 O:rx s'
 ok:bC s'
theorem rT{Kw:Nat->Prop}{W a:ay}{g gh:Nat}{v:cH}{cs:gF}(h:iB (Pw Kw g gh) W v cs)(b:W.grownBy a (some g)):iB (Pw Kw g gh) a v cs:=h.grow (ci.bZ b) (λi c d=>c.1 (ar.1 d))
def IT(a o n c:Nat):Value:= .slice (if c=1 then some ⟨a,o,none⟩else some ⟨a,o+1,none⟩) n (c -1)
theorem OS{P:Nat->Prop}{W:ay}{b o c:Nat}{x:cH}{r:gF}(h:iB P W (.slice (some ⟨b,o,none⟩) (r.length+1) c) (x::r)):iB P W (.slice (some ⟨b,o+1,none⟩) r.length (c -1)) r:=by
 rcases h with⟨h,_⟩|⟨g,p,q,a,e,f,i,k⟩
 .cases h
 .injection a with a _ d;injection a with a;injection a with l m;subst l m d;refine .inr ⟨b,o+1,c -1,rfl,by rw[fw]at e;omega,f,i,λj y n=> ?_⟩;have:=k (j+1) y (ek n);rwa[show o+1+j=o+(j+1) by omega]
theorem SN{P:Nat->Prop}{W:ay}{a o c:Nat}{x:cH}{r:gF}(h:iB P W (.slice (some ⟨a,o,none⟩) (r.length+1) c) (x::r))(e:r.length+1<=c):iB P W (IT a o r.length c) r:=by
 by_cases b:c=1
 .have d:r= []:=o5 af;subst d;exact .inl ⟨rfl,_,_,rfl⟩
 .unfold IT;rw[aq b];exact OS h
theorem UN{Kw:Nat->Prop}{E:gn}{w0 w:ay}{g gh:Nat}{vw re:cH}{s:aX}(cx:Ctx E w0 g w)(ok:bC s)(h:cP w g gh vw re .nilIface s)(hS:iB (Pw Kw g gh) w vw (s.waits.map Value.string))(hO:rx s):
 Calls prog 161 #[.pointer (some ⟨g,0,none⟩)] w λr N=>r= .returned (.tuple #[])/\(∃b,cP N g gh b re .nilIface (lV s.waits.length s)/\iB (Pw Kw g gh) N b ((lV s.waits.length s).waits.map Value.string))/\w.grownBy N (some g):=by
 obtain⟨F,hF⟩:=aP (lV s.waits.length s);have H0:=aa (show Flu Kw w g gh re s F w s vw from⟨h,hS,hF.symm,ez _ _,hO,ok⟩);have CX:=aa cx;rw[<-hF];clear h hS hO ok hF cx
 go_enter func161,ntmps161
 go_wp2_with fail
 go_loopw [] (λW=> ∃d b,Flu Kw w g gh re s F W d b) (λW=>xl W ⟨g,476,none⟩)
 case atStart=>exact⟨s,vw,H0.o⟩
 case round=>
  obtain⟨d,b,j⟩:=hrel;have a:=aa j;have z:=j.B.Xs j.ok;have q:=j.B.L5 j.ok;have k:=j.B.Df j.ok;have C:=j.B.Uq j.ok;have D:=aa (CX.o.only j.G);clear j
  by_cases hk:d.c7=0
  .rw[hk]at q;have t:=aa (by rw[<-a.o.F];exact vB _ _ (.inr (.inl hk)):F=d)
   go_wp2_with fail
   go_end0
   exact⟨rfl,⟨b,by rw[t.o];exact a.o.B,by rw[t.o];exact a.o.S⟩,a.o.G⟩
  .have ik:(0:Int)<(d.c7:Nat):=af;cases M:d.on.iD with
   |true=>
    rw[M]at k;have t:=aa (by rw[<-a.o.F];exact vB _ _ (.inr (.inr M)):F=d)
    go_wp2_with fail
    go_end0
    exact⟨rfl,⟨b,by rw[t.o];exact a.o.B,by rw[t.o];exact a.o.S⟩,a.o.G⟩
   |false=>
    rw[M]at k;cases x:d.waits with
    |nil=>
     have t:=aa (by rw[<-a.o.F];exact vB _ _ (.inl x):F=d)
     obtain⟨A,c,rfl⟩:∃A c,b= .slice A 0 c:=by
      have h:=a.o.S;rw[x]at h;rcases h with⟨_,h⟩|⟨g,o,c,h,_⟩
      .exact h
      .exact⟨_,c,h⟩
     go_wp2_with fail
     go_end0
     exact⟨rfl,⟨_,by rw[t.o];exact a.o.B,by rw[t.o];exact a.o.S⟩,a.o.G⟩
    |cons p r=>
     have P:=aa (J3 d p r x af M a.o.O);have m:=a.o.S;rw[x]at m
     obtain⟨f,o,c,rfl,H,Q,R,l⟩:∃f o c,b= .slice (some ⟨f,o,none⟩) (r.length+1) c/\r.length+1<=c/\f≠g/\f<wr.heap.size/\wr.cell? ⟨f,o,none⟩=some (.string p):=by
      rcases m with⟨h,_⟩|⟨f,o,c,y,h2,h3,h4,h5⟩
      .cases h
      .exact⟨f,o,c,by rw[y];simp,by simpa using h2,h3.1,h4,by simpa using h5 0 (.string p) rfl⟩
     have n:wr.cell? ⟨f,o+0,none⟩=some (.string p):=l;have U:=aa (by rw[aM];exact m:iB (Pw Kw g gh) wr (.slice (some ⟨f,o,none⟩) ((r.map Value.string).length+1) c) (.string p::r.map Value.string));have V:=a.o.O.each p (by rw[x];simp);have X:=aa (Sa p a.o.ok V.1 V.2 a.o.O.room.wn a.o.O.room.out a.o.O.room.since D.o.env.pX D.o.env.order a.o.B);have u:=aa (a.o.ok.packed p r);have Y:=aa (a.o.O.step x);have il:(0:Int)<((r.length+1:Nat):Int):=af;have ad:(1:Int)<=((r.length+1:Nat):Int):=af;have Z:=aa a.o.O.every;clear m V Q R
     go_wp2_with fail
     refine X.o.mono ?_;rintro e W1 ⟨rfl,y,g1⟩;have I:bC (nR d p):=a.o.ok.packed p d.waits;have v:=y.Uq I;have J:=Lay.free y 476;have H1:=aa y;have G1:=aa g1;have ab:=aa (rT U.o g1);clear y g1 l n z q k C
     go_upto_region 3 with(fail)
     refine aU (λW=>cP W g gh (IT f o r.length c) re .nilIface {nR d p with waits:=r}/\iB (Pw Kw g gh) W (IT f o r.length c) (r.map Value.string)/\wr.grownBy W (some g)) ⟨?_,?_,?_⟩ ?_
     .exact H1.o.acj I _
     .have:=rT (SN ab.o (by rw[aM];exact H)) (aY (w:=W1) ⟨g,476,none⟩ rfl (IT f o r.length c));rwa[aM]at this
     .exact aZ G1.o (aY _ rfl _)
     intro K ⟨k1,k2,k3⟩;have K1:=aa k1;have K2:=aa k2;have K3:=aa k3
     have aj:K.cell? ⟨g,67,none⟩=some (.int .i64 0):=by
      have:=k1.Uo u.o;rwa[show({nR d p with waits:=r}:aX).every=0 from Z.o]at this
     clear k1 k2 k3 J v
     go_quiet (fail)
     go_wp2_with fail
     go_roundw
     case rel=>exact⟨{nR d p with waits:=r},_,⟨K1.o.below (bA (aw _ K) _) K1.o.inside,K2.o.grow (L:= []) (ci.cL (bA (aw _ K) _) []) (λi hi hm=>absurd hm bj),by rw[<-a.o.F,P.o],aZ (aZ a.o.G K3.o) (bR (bA (aw _ K) _) _),Y.o,u.o⟩⟩
     case measure=>
      have e1:=Bx (a.o.B.Uq a.o.ok);have e2:=Bx (K1.o.Uq u.o);show xl K ⟨g,476,none⟩<xl wr ⟨g,476,none⟩;omega
def onP(x:CU):List (List Value):=
 [[.string x.xL],[.string x.xM],[.bool x.skip],x.draw.map (Value.int .u8),[.bool x.asked],[.bool x.done],[.string x.l0],[.string x.l1],[.string x.i0],[.string x.i1],[.string x.hb],x.p0.map (Value.int .u8),x.p1.map (Value.int .u8),x.sec.map (Value.int .u8),x.k0.map (Value.int .u8),x.k1.map (Value.int .u8),[.bool x.yC],[.bool x.iD],[.bool x.eN],x.hash.map (Value.int .u8),x.key.map (Value.int .u8)]
theorem QB:(zeroCells75).toList=(onP ti).flatten:=al
section
variable {w:World}{g gh:Nat}{vw re e:Value}{s:aX}
theorem Wj(a:aR)(j:a.length=32)(c:bC s)(h:cP w g gh vw re e s):
 Calls prog 160 #[.pointer (some ⟨g,105,none⟩),.agg (ai .u8 a)] w λr b=>r= .returned (.tuple #[])/\cP b g gh vw re e {s with rb:=true,rk:=a}/\w.grownBy b (some g):=by
 have d:=Lay.sub h 12 5;have k:=wZ (i:=12) (o:=105) (iQ (gh:=gh) (vw:=vw) (re:=re) (e:=e) c) an
 have l:((eY gh vw re e s).drop 12 |>.take 5).flatten.toArray=dU s.rn s.rb s.rk++ #[.string s.rs,re]:=by
  rw[fJ];show([Value.int .u64 s.rn]++([Value.bool s.rb]++(s.rk.map (Value.int .u8)++([Value.string s.rs]++([re]++ []))))).toArray=_;simp
 rw[l]at d;have f:=Off.Fs (pr:=((eY gh vw re e s).take 12).flatten.toArray) (po:=((eY gh vw re e s).drop (12+5)).flatten.toArray) g s.rn s.rb s.rk a 77 #[.string s.rs,re] c.rk.1 j w d;rw[k]at f;refine f.mono ?_;rintro r b ⟨rfl,m,n⟩;refine⟨rfl,?_,n⟩;exact Lay.Kz (qs:= [[.int .u64 (s.rn:Nat)],[.bool true],a.map (Value.int .u8),[.string s.rs],[re]]) m (by rw[fJ];simp)
theorem Wl(a:aR)(j:a.length=32)(c:bC s)(h:cP w g gh vw re e s):
 Calls prog 191 #[.pointer (some ⟨g,71,none⟩),.agg (ai .u8 a)] w λr b=>r= .returned (.tuple #[])/\cP b g gh vw re e {s with wb:=true,wk:=a}/\w.grownBy b (some g):=by
 have d:=Lay.sub h 9 3;have k:=wZ (i:=9) (o:=71) (iQ (gh:=gh) (vw:=vw) (re:=re) (e:=e) c) an
 have l:((eY gh vw re e s).drop 9 |>.take 3).flatten.toArray=dU s.wn s.wb s.wk++ #[]:=by
  rw[fJ];show([Value.int .u64 s.wn]++([Value.bool s.wb]++(s.wk.map (Value.int .u8)++ []))).toArray=_;simp
 rw[l]at d;have f:=Off.Je (pr:=((eY gh vw re e s).take 9).flatten.toArray) (po:=((eY gh vw re e s).drop (9+3)).flatten.toArray) g s.wn s.wb s.wk a 77 #[] c.wk.1 j w d;rw[k]at f;refine f.mono ?_;rintro r b ⟨rfl,m,n⟩;refine⟨rfl,?_,n⟩;exact Lay.Kz (qs:= [[.int .u64 (s.wn:Nat)],[.bool true],a.map (Value.int .u8)]) m (by rw[fJ];simp)
end
theorem WM{E:gn}{w0 w:ay}{g gh:Nat}{vw re e:cH}{s:aX}(cx:Ctx E w0 g w)(b:bC s)(h:cP w g gh vw re e s)(a:s.on.yC=false):
 Calls prog 119 #[.pointer (some ⟨g,0,none⟩)] w λr c=>r= .returned (bM (E 5))/\c=w:=by
 have c1:=h.P5 b;rw[a]at c1;have d:w.cell? ⟨5,0,none⟩=some (bM (E 5)):=cx.env.gY.var 5 af;clear cx b h;unfold bM at d⊢
 go_enter func119,ntmps119
 go_wp2_with fail
 go_ret
 exact⟨rfl,rfl⟩
def wE(Kw:Nat->Prop)(g gh n:Nat)(vw:Value)(cs:List Value):En:=⟨0,false,Pw (λk=>Kw k/\k<n) g gh,λ_ W=>iB (Pw (λk=>Kw k/\k<n) g gh) W vw cs,[],λ_ W c h a b=>iB.loc h a b,true⟩
theorem Wv{Kw:Nat->Prop}{g gh:Nat}{w:ay}{v:cH}{cs:gF}(h:iB (Pw Kw g gh) w v cs):iB (Pw (λk=>Kw k/\k<w.heap.size) g gh) w v cs:=h.imp id (λ⟨b,o,c,e,f,a,d⟩=>⟨b,o,c,e,f,⟨a.1,a.2.1,a.2.2,d.1⟩,d⟩)
theorem cP.hw{w:ay}{g gh:Nat}{vw re e:cH}{s:aX}{Kw:Nat->Prop}{cs:gF}(h:cP w g gh vw re e s)(b:bC s)(hS:iB (Pw Kw g gh) w vw cs):Hp w [g] [sE g gh vw re e s,wE Kw g gh w.heap.size vw cs] w:=
 Hp.cons ((Hp.nil _ _).cons (e:=wE Kw g gh w.heap.size vw cs) (Wv hS) (λk a=>a.2.2.2) (λh=>by cases h) (λ_ h=>by cases h)) ⟨iQ b,h⟩ (λ_ e=>e▸Lay.inside h) (λ_ _ e=>e▸ .head _) (λx c k a d=>by obtain rfl:=ar.1 c;exact d.1 a)
theorem TO.abd{w:ay}{g gh:Nat}{vw re e e':cH}{s s':aX}{r:List En}{Kw:Nat->Prop}{cs cs':gF}{j:iT}{G:Value->Prop}{P:abm}{dr:Bool}{ops:ZV}{l:rX}{X:iT}{n:Nat}{a a':Go.Act}{o:Oper}{v:cH}{K:Go.Act->List En->Prop}{m:FuncId}{args:gJ}(y:bC s')(z:∀W,Hp w [g] (sE g gh vw re e s::wE Kw g gh w.heap.size vw cs::r) W->Calls P m args W λr d=> ∃b,r= .returned v/\cP d g gh b re e' s'/\iB (Pw (λk=>Kw k/\k<w.heap.size) g gh) d b cs'/\W.grownBy d (some g))(h:∀b,G b)
 (A:ops[n]?=some o:=by rfl) (B:ip P dr ops l j=true:=by decide+kernel) (C:Region.wanted o (yielded ops a.tmps)=true:=by rfl) (f:gu P o=false:=by rfl) (D:∀W,(execOp a.eval o).run P W= .ok (.enter m args) W:=by(intro W;go_simp;first|done|rfl)) (E:∀b,dr=true->er (xo X n) 0 (eY gh b re e' s')=er (xo X n) 0 (eY gh vw re e s):=by first|(intro _ h;cases h;done)|(intro _ _;kernel_rfl)) (F:a.put o.dst v=a':=by(go_simp;first|done|rfl))
 (hgo:∀b,G b->K a' (sE g gh b re e' s'::wE Kw g gh w.heap.size b cs'::r):=by(intro b k;refine go ?_;exact k)):TO j P dr ops l w [g] X n K a (sE g gh vw re e s::wE Kw g gh w.heap.size vw cs::r):=by
 refine TO.of A C f B λW q=> ?_;rw[D W];refine(z W q).mono λu d ⟨b,H,I,J,t⟩=> ?_;have L:=(q.oE (p:=0) (g:=g) rfl rfl rfl (eY gh b re e' s') (ci.bZ t) ⟨iQ y,I⟩).swap (p:=1) (e':=wE Kw g gh w.heap.size b cs') rfl rfl rfl J;have hF:=Fr.oE (s:=sE g gh vw re e s::wE Kw g gh w.heap.size vw cs::r) (p:=0) (g:=g) rfl rfl (eY gh b re e' s') (ci.bZ t);refine⟨v,_,H,λM x c=> ?_,L,⟨λ_=>⟨hF.et,hF.size,λx c k i=> ?_⟩⟩,by show K (a.put o.dst v) _;rw[F];exact hgo b (h b)⟩
 .rcases dz.1 c with rfl|c
  .exact .inr ⟨_,.head _,E b M⟩
  .rcases dz.1 c with rfl|c
   .exact .inl rfl
   .exact .inr ⟨x.ps,.tail _ (.tail _ c),rfl⟩
 .rcases dz.1 c with rfl|c
  .exact .inl ⟨_,.head _,i⟩
  .rcases dz.1 c with rfl|c
   .exact .inl ⟨_,.tail _ (.head _),i⟩
   .exact .inl ⟨x,.tail _ (.tail _ c),i⟩
theorem iR{Kw:Nat->Prop}{g gh n:Nat}{w:ay}{v:cH}{cs:gF}(h:iB (Pw (λk=>Kw k/\k<n) g gh) w v cs):iB (Pw Kw g gh) w v cs:=h.mono λ_ h=>⟨h.1,h.2.1,h.2.2.1⟩
theorem xZ:∀(n:Nat) {s:aX},s.every=0->bC s->bC (lV n s)
 |0,_,_,a=>a
 |n+1,s,b,a=>by
  unfold lV
  split
  .split
   .exact a
   .dsimp only;rw[if_neg (λh=>by have c:(0:Int)<s.every:=h.1;omega)];exact xZ n b (a.packed _ _)
  .exact a
theorem ZP{Kw:Nat->Prop}{E:gn}{w0 w:ay}{g gh:Nat}{vw re:cH}{s:aX}(cx:Ctx E w0 g w)(a:bC s)(h:cP w g gh vw re .nilIface s)(hS:iB (Pw Kw g gh) w vw (s.waits.map Value.string))(e:s.on.yC=true)(f:rx {s with since:=0})(u:s.c7<=1000000000):
 Calls prog 119 #[.pointer (some ⟨g,0,none⟩)] w λr m=>r= .returned .nilIface/\(∃c,cP m g gh c re .nilIface (nG s).1/\iB (Pw Kw g gh) m c ((nG s).1.waits.map Value.string))/\w.grownBy m (some g):=by
 obtain⟨S,b⟩:∃S,Hid (S={s with rb:=true,rk:=if s.cl then s.on.k1 else s.on.k0,id:=if s.c7=0 then s.on.hash else s.id,key:=s.on.key,c7:=s.c7+1,on:=ti,since:=0}):=⟨_,aa rfl⟩;have q:Hid ((nG s).1=lV S.waits.length S):=aa (by unfold nG;rw[aq (by rw[e];decide),b.o]);have j:bC S:=by rw[b.o];exact{a with rk:=by show dn (if s.cl then _ else _);split;exact a.lR;exact a.lQ,id:=by show dn (if s.c7=0 then _ else _);split;exact a.gA;exact a.id,key:=a.iG,iv:=dn.av,nv:=dn.av,mh:=dn.av,iH:=dn.av,lQ:=dn.av,lR:=dn.av,gA:=dn.av,iG:=dn.av}
 have t:rx S:=by rw[b.o];exact⟨f.every,f.gone,f.wn,f.out,f.since,f.each⟩
 have n:S.waits=s.waits:=by rw[b.o]
 have o:=h.hw a hS;have x:bC (lV S.waits.length S):=xZ _ t.every j;have F:(((s.c7:Nat):Int)==0)=decide (s.c7=0):=by rw[Bool.eq_iff_iff];simp
 have G: -9223372036854775808<=(s.c7:Int)+1:=af;have H:(s.c7:Int)+1<9223372036854775808:=af;have l:dn (if s.cl then s.on.k1 else s.on.k0):=by split;exact a.lR;exact a.lQ
 have p:=l.1;have y:=a.gA.1;have z:=a.iG.1;clear f;cases A:s.cl<;>by_cases i:s.c7=0
 all_goals
  refine TC.enter func119 ntmps119 _ _ o ?_;refine TC.rg [13,14] ?_;refine T.one 14 (TO.BZ (s':={s with rb:=true,rk:=if s.cl then s.on.k1 else s.on.k0}) {a with rk:=l} (λW d=>Wj _ p a (eF d)) ?_);refine T.one 4 (TO.XP (v:= .agg zeroCells75) 0 21 (qs:=onP ti) (hq:=by exact QB) (hl:=by decide+kernel) (h1:=by kernel_rfl) ?_);refine T.put 0 (eY gh vw re .nilIface S) (he:=by rw[b.o];(first|rw[aJ i,i]|rw[aq i]);kernel_rfl) ?_;refine T.one 1 (TO.abd x (λW d=>(UN (Kw:=λk=>Kw k/\k<w.heap.size) (cx.hp d) j (eF d) (n.symm▸d.en _ (.tail _ (.head _))) t).mono λr I ⟨h1,⟨v,B,C⟩,D⟩=>⟨v,h1,B,C,D⟩) λc=> ?_);exact TE.rv λW d=>⟨rfl,⟨c,by rw[q.o];exact eF d,by rw[q.o];exact iR (d.en _ (.tail _ (.head _)))⟩,d.base.only⟩
theorem Lu{E:gn}{w0 w:ay}{g gh:Nat}{vw re e:cH}{s:aX}(cx:Ctx E w0 g w)(a:bC s)(h:cP w g gh vw re e s)(p:bB)(d:p.size≠32):
 Calls prog 151 #[.pointer (some ⟨g,0,none⟩),.string p] w λr b=>r= .returned (bM (E 2))/\b=w:=by
 have c:w.cell? ⟨2,0,none⟩=some (bM (E 2)):=cx.env.gY.var 2 af;have f:¬(p.size:Int)=32:=af;clear cx a h;unfold bM at c⊢
 go_enter func151,ntmps151
 go_wp2_with fail
 go_ret
 exact⟨rfl,rfl⟩
theorem M8{w:ay}{g gh:Nat}{vw re:cH}{s:aX}(b:Bool)(k:s.cl=b)(f:bC s)(h:cP w g gh vw re .nilIface s)(p:bB)(l:p.size=32)(a:di s.on.draw (bI p)≠0):
 Calls prog 151 #[.pointer (some ⟨g,0,none⟩),.string p] w λr i=>r= .returned .nilIface/\cP i g gh vw re .nilIface {s with on:={s.on with p0:=if b then s.on.p0 else bI p,p1:=if b then bI p else s.on.p1,sec:=eE (di s.on.draw (bI p))}}/\w.grownBy i (some g):=by
 have d:(bI p).length=32:=by rw[aj,l]
 have e:dn (bI p):=⟨d,c8 p⟩;have m:=tN (di s.on.draw (bI p));have n:(p.size:Int)=32:=af;cases b
 all_goals
  refine TC.enter func151 ntmps151 _ _ (h.hp f) ?_;refine TC.rg [29,30] ?_;refine T.one 7 (TO.RF λo c=> ?_);refine T.lt 9 ?_;refine TC.rg [121000] ?_;refine T.one 17 (TO.qk (v:= .tuple #[.agg (ai .u8 (eE (di s.on.draw (bI p)))),.nilIface]) (λW j=>Ws s.on.draw (bI p) f.iv e a W) ?_);refine T.one 21 (TO.J (z:=32) λq=> ?_);refine TE.rv λW j=>⟨rfl,?_⟩;exact j.uT rfl
theorem SJ{w:ay}{g gh:Nat}{vw re:cH}{s:aX}(a:s.cl=true)(d:bC s)(h:cP w g gh vw re .nilIface s)(p:bB)(e:p.size=32)(b:di s.on.draw (bI p)≠0):
 Calls prog 151 #[.pointer (some ⟨g,0,none⟩),.string p] w λr c=>r= .returned .nilIface/\cP c g gh vw re .nilIface {s with on:={s.on with p1:=bI p,sec:=eE (di s.on.draw (bI p))}}/\w.grownBy c (some g):=M8 true a d h p e b
theorem SK{w:ay}{g gh:Nat}{vw re:cH}{s:aX}(a:s.cl=false)(d:bC s)(h:cP w g gh vw re .nilIface s)(p:bB)(e:p.size=32)(b:di s.on.draw (bI p)≠0):
 Calls prog 151 #[.pointer (some ⟨g,0,none⟩),.string p] w λr c=>r= .returned .nilIface/\cP c g gh vw re .nilIface {s with on:={s.on with p0:=bI p,sec:=eE (di s.on.draw (bI p))}}/\w.grownBy c (some g):=M8 false a d h p e b
end Go.Proofs.P
