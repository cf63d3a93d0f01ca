/- Lemmas on which SessionPins rests. -/
import Derived.Test.YtcjcibnggioknaaGreatDoorZ30
set_option maxRecDepth 100000
set_option maxHeartbeats 40000000
set_option linter.unusedVariables false
open Go.RowKit Go.Spk
open Go.Proofs.Tryz
namespace Go.Proofs.P
theorem D6(n:Nat)(t:bB):(hG n t).size<=t.size:=by
 unfold hG;rw[p9 _ _ (Nat.min_le_right _ _)];omega
theorem VD{p:fe}{s2:aX}{l:eL}{o:Option Nat}{n:Nat}{e1:Option Nat}(hz:fU p)(a:fU (cU ⟨p.c,s2,p.mE,hG n p.ma,p.mW,p.mX++l,p.qA,th p.qB o⟩)):fU ⟨p.c,s2,p.mE,hG n p.ma,p.mW,p.mX++l,p.qA,e1⟩:=by
 have b:(p.mE++s2.out).size<=1000000000:=a.mE;rw[aN]at b;exact⟨hz.mE,ap (D6 n p.ma) hz.ma,hz.co,by show s2.out.size<=_;omega,hz.gC,a.gS⟩
theorem VB{p:fe}{s2:aX}{l:eL}{o:Option Nat}{n:Nat}{e1:Option Nat}(hz:fU p)(a:fU (cU ⟨s2,p.s,hG n p.mE,p.ma,p.mW++l,p.mX,th p.qA o,p.qB⟩)):fU ⟨s2,p.s,hG n p.mE,p.ma,p.mW++l,p.mX,e1,p.qB⟩:=by
 have b:(p.ma++s2.out).size<=1000000000:=a.ma;rw[aN]at b;exact⟨ap (D6 n p.mE) hz.mE,hz.ma,by show s2.out.size<=_;omega,hz.so,a.gC,hz.gS⟩
structure Q6(E:Nat->Addr)(y:PB)(B:Nat)(p:fe)(eC eS:Value)(o:Option Nat)(ev:Value)(l:List ByteArray)(lv:Value)(r:List En)(V:World):Prop where
 q:Q5 E y B p eC eS V
 e:Ca E V o ev
 o:∃B2,V.ownsRow B2 9 1 lv l.length (l.map Value.string)/\ ∀b,lv.ownBlock=some b-> ∀x∈r,¬x.B b
abbrev T3:=Option Addr×Nat×Nat
section
variable {E:Nat->Addr}{w0 w W W':World}{y:PB}{p p2 R:fe}{x:PX}{eC eS ev lv:Value}{r rest:List En}{d B:Nat}{s2:aX}{l:List ByteArray}{o:Option Nat}{N:Nat->Prop}
theorem Q6.stays(h:Q6 E y B p eC eS o ev l lv r W)(i:El y B W r):qI r (Q6 E y B p eC eS o ev l lv r) W:=λV L a c=>
 ⟨h.q.stays i V L a c,h.e.grow a (λp k m d=>let⟨x,f,g⟩:=c _ d;(i x f _ g).2.2 k m),let⟨n,s,j⟩:=h.o;⟨n,Ik s a (λb t d=>let⟨x,f,g⟩:=c _ d;j b t x f g),j⟩⟩
theorem KQ(G:PW E w0 w y)(hz:fU p)(t:cU p=p)(n:Nat)(hn:n<=1073741824)(hF:xQ p.s (kg n p.ma) s2 l o)(D:fU (cU ⟨p.c,s2,p.mE,hG n p.ma,p.mW,p.mX++l,p.qA,th p.qB o⟩))(a:Hp w y.M (xN E w y p x) W):
 Calls prog 20 #[.pointer (some ⟨y.gp,0,none⟩),.bool true,.int .i64 (n:Nat)] W λe W'=> ∃R:PX,e= .returned (.tuple #[])/\Hp w y.M (xN E w y (cU ⟨p.c,s2,p.mE,hG n p.ma,p.mW,p.mX++l,p.qA,th p.qB o⟩) R) W':=by
 obtain⟨S,U,A,B,eC,eS⟩:=x;have F:=λW a=>rO (E:=E) (w0:=w0) (p:=p) (x:=⟨S,U,A,B,eC,eS⟩) (W:=W) G hz a;rw[t]at F;unfold xN yv at F a;dsimp only at F a;have X:=Do a.q0.eS;obtain⟨m,J⟩:=aP (min n p.ma.size);have O:min (n:Int) (p.ma.size:Int)=(m:Int):=af;have Y:m<=p.ma.size:=af;have Z:(m:Int)<=(p.ma.size:Int):=af;have HH:=aa (by unfold kg;rw[J]:kg n p.ma=p.ma.extract 0 m);have HR:=aa (by unfold hG;rw[J]:hG n p.ma=p.ma.extract m p.ma.size);have ab:p.ma.size<=1000000000:=hz.ma;have HL:=aa (show p.mX.length+l.length<=1000000000 by have:=D.gS;rw[show(cU ⟨p.c,s2,p.mE,hG n p.ma,p.mW,p.mX++l,p.qA,th p.qB o⟩).mX=p.mX++l from rfl,List.length_append]at this;omega);have K:=aa (λW (hg:ci y.M w W) (i:Q5 E y w.heap.size p eC eS W)=>QE (Kw:=y.kw w.heap.size) (G.ctx hg (g:=y.gS) bj) (G.lo y.hS bj) (i.s.live hF.gone) (kg n p.ma) hF);obtain⟨u,P⟩:=eZ o;have HZ:=aa (VD (e1:=th p.qB u) hz D);rw[<-P.o];rw[HH.o]at K;have F:=aa F;clear J hz D hF t
 have key:∀W W' (z:List En×Nat) ev,Hp w y.M (xN E w y p ⟨z.1,z.2,A,B,eC,eS⟩) W->Q5 E y w.heap.size p eC eS W-> ∀x:T3,W'.ownsRow W.heap.size 9 1 (sl x) l.length (l.map Value.string)->FP (y.kw w.heap.size) E W' y.gS y.hS ev s2 o->ci [y.gS,y.hS] W W'->qI (yv w y p ⟨z.1,z.2,A,B,eC,eS⟩) (Q6 E y w.heap.size {p with s:=s2} eC eS o ev l (sl x) (yv w y p ⟨z.1,z.2,A,B,eC,eS⟩)) W':=λW W' z ev a i x f j C=>
  Q6.stays ⟨i.aaR G C bj j.all.1,j.all.2,_,f,λb L e he hk=>by have:=Bj f b L;have:=a.ins e (.tail _ he) b hk;omega⟩ (zY (p:=p) (x:=⟨z.1,z.2,A,B,eC,eS⟩) a C bj)
 have H:=aa key;clear key;rcases X with⟨N,rfl⟩|⟨k0,q0,N,rfl⟩
 all_goals
  have Q:=aa N;clear N;refine TC.EO func20 ntmps20 a ?_;refine T.one 1 (TO.hp (λW a=>F.o W a) λz=> ?_);refine TC.rg [] ?_;cases o
  case' none=>refine T.one 10 (TO.re (λ(x:T3) V=>Q6 E y w.heap.size {p with s:=s2} _ _ none .nilIface l (sl x) (yv w y p ⟨z.1,z.2,A,B,_,_⟩) V) [y.gS,y.hS] (vf:=λx=> .tuple #[sl x,.nilIface]) (λW a i=>(K.o W a.base i).mono λr W' ⟨lv,ev,I,f,j,C⟩=>by
   obtain⟨x,rfl⟩:=lI f;obtain rfl:ev= .nilIface:=j.1;exact⟨x,I,H.o W W' z .nilIface a i x f j C,C⟩) λx d=> ?_)
  case' some k=>refine T.one 10 (TO.re (λ(x:T3×Nat) V=>Q6 E y w.heap.size {p with s:=s2} _ _ (some k) (dl x.2) l (sl x.1) (yv w y p ⟨z.1,z.2,A,B,_,_⟩) V) [y.gS,y.hS] (vf:=λx=> .tuple #[sl x.1,dl x.2]) (λW a i=>(K.o W a.base i).mono λr W' ⟨lv,ev,I,f,j,C⟩=>by
   obtain⟨x,rfl⟩:=lI f;obtain⟨q,rfl,h5⟩:=j;exact⟨(x,q),I,H.o W W' z (dl q) a i x f ⟨q,rfl,h5⟩ C,C⟩) λx d=> ?_)
  all_goals
   refine TC.rg [170001003,200001005] ?_;refine T.one 13 (TO.apl 3 (xs:=p.mX.map Value.string) (ys:=l.map Value.string) (λW a=>by obtain⟨B2,I,f⟩:=a.q0.o;exact⟨B2,by rw[List.length_map];exact I,λb L j=>f b L (ow 3 w.heap.size 9 (sl B) (p.mX.map Value.string)) bj j⟩) (λv hv=>by obtain⟨b,_,rfl⟩:=List.mem_map.1 hv;rfl) (by rw[List.length_map,List.length_map];exact HL.o) λx2=> ?_)
   refine T.one 1 (TO.hp (vf:=λ_=> .tuple #[]) (λW a=>by
    have h:=a.rq (q':=Q5 E y w.heap.size ⟨p.c,s2,p.mE,hG n p.ma,p.mW,p.mX++l,p.qA,th p.qB u⟩ _ _) (λV h=>⟨h.q.c,h.q.s,h.q.eC,by first|(have:=h.e;rw[Q.o,P.o];exact this)|(have:=h.q.eS;rw[Q.o]at this⊢;exact this)⟩);rw[<-List.map_append,<-HR.o]at h;exact rO (p:=⟨p.c,s2,p.mE,hG n p.ma,p.mW,p.mX++l,p.qA,th p.qB u⟩) (x:=⟨_,_,A,x2,_,_⟩) G HZ.o h) λz2=> ?_)
   refine TE.rt λW a=>⟨_,rfl,a⟩
theorem KP(G:PW E w0 w y)(hz:fU p)(t:cU p=p)(n:Nat)(hn:n<=1073741824)(hF:xQ p.c (kg n p.mE) s2 l o)(D:fU (cU ⟨s2,p.s,hG n p.mE,p.ma,p.mW++l,p.mX,th p.qA o,p.qB⟩))(a:Hp w y.M (xN E w y p x) W):
 Calls prog 20 #[.pointer (some ⟨y.gp,0,none⟩),.bool false,.int .i64 (n:Nat)] W λe W'=> ∃R:PX,e= .returned (.tuple #[])/\Hp w y.M (xN E w y (cU ⟨s2,p.s,hG n p.mE,p.ma,p.mW++l,p.mX,th p.qA o,p.qB⟩) R) W':=by
 obtain⟨S,U,A,B,eC,eS⟩:=x;have F:=λW a=>rO (E:=E) (w0:=w0) (p:=p) (x:=⟨S,U,A,B,eC,eS⟩) (W:=W) G hz a;rw[t]at F;unfold xN yv at F a;dsimp only at F a;have X:=Do a.q0.eC;obtain⟨m,J⟩:=aP (min n p.mE.size);have O:min (n:Int) (p.mE.size:Int)=(m:Int):=af;have Y:m<=p.mE.size:=af;have Z:(m:Int)<=(p.mE.size:Int):=af;have HH:=aa (by unfold kg;rw[J]:kg n p.mE=p.mE.extract 0 m);have HR:=aa (by unfold hG;rw[J]:hG n p.mE=p.mE.extract m p.mE.size);have ab:p.mE.size<=1000000000:=hz.mE;have HL:=aa (show p.mW.length+l.length<=1000000000 by have:=D.gC;rw[show(cU ⟨s2,p.s,hG n p.mE,p.ma,p.mW++l,p.mX,th p.qA o,p.qB⟩).mW=p.mW++l from rfl,List.length_append]at this;omega);have K:=aa (λW (hg:ci y.M w W) (i:Q5 E y w.heap.size p eC eS W)=>QE (Kw:=y.kw w.heap.size) (G.ctx hg (g:=y.gC) bj) (G.lo y.hC bj) (i.c.live hF.gone) (kg n p.mE) hF);obtain⟨u,P⟩:=eZ o;have HZ:=aa (VB (e1:=th p.qA u) hz D);rw[<-P.o];rw[HH.o]at K;have F:=aa F;clear J hz D hF t
 have key:∀W W' (z:List En×Nat) ev,Hp w y.M (xN E w y p ⟨z.1,z.2,A,B,eC,eS⟩) W->Q5 E y w.heap.size p eC eS W-> ∀x:T3,W'.ownsRow W.heap.size 9 1 (sl x) l.length (l.map Value.string)->FP (y.kw w.heap.size) E W' y.gC y.hC ev s2 o->ci [y.gC,y.hC] W W'->qI (yv w y p ⟨z.1,z.2,A,B,eC,eS⟩) (Q6 E y w.heap.size {p with c:=s2} eC eS o ev l (sl x) (yv w y p ⟨z.1,z.2,A,B,eC,eS⟩)) W':=λW W' z ev a i x f j C=>
  Q6.stays ⟨i.aaQ G C bj j.all.1,j.all.2,_,f,λb L e he hk=>by have:=Bj f b L;have:=a.ins e (.tail _ he) b hk;omega⟩ (zY (p:=p) (x:=⟨z.1,z.2,A,B,eC,eS⟩) a C bj)
 have H:=aa key;clear key;rcases X with⟨N,rfl⟩|⟨k0,q0,N,rfl⟩
 all_goals
  have Q:=aa N;clear N;refine TC.EO func20 ntmps20 a ?_;refine T.one 1 (TO.hp (λW a=>F.o W a) λz=> ?_);refine TC.rg [] ?_;cases o
  case' none=>refine T.one 10 (TO.re (λ(x:T3) V=>Q6 E y w.heap.size {p with c:=s2} _ _ none .nilIface l (sl x) (yv w y p ⟨z.1,z.2,A,B,_,_⟩) V) [y.gC,y.hC] (vf:=λx=> .tuple #[sl x,.nilIface]) (λW a i=>(K.o W a.base i).mono λr W' ⟨lv,ev,I,f,j,C⟩=>by
   obtain⟨x,rfl⟩:=lI f;obtain rfl:ev= .nilIface:=j.1;exact⟨x,I,H.o W W' z .nilIface a i x f j C,C⟩) λx d=> ?_)
  case' some k=>refine T.one 10 (TO.re (λ(x:T3×Nat) V=>Q6 E y w.heap.size {p with c:=s2} _ _ (some k) (dl x.2) l (sl x.1) (yv w y p ⟨z.1,z.2,A,B,_,_⟩) V) [y.gC,y.hC] (vf:=λx=> .tuple #[sl x.1,dl x.2]) (λW a i=>(K.o W a.base i).mono λr W' ⟨lv,ev,I,f,j,C⟩=>by
   obtain⟨x,rfl⟩:=lI f;obtain⟨q,rfl,h5⟩:=j;exact⟨(x,q),I,H.o W W' z (dl q) a i x f ⟨q,rfl,h5⟩ C,C⟩) λx d=> ?_)
  all_goals
   refine TC.rg [170001002,200001004] ?_;refine T.one 13 (TO.apl 2 (xs:=p.mW.map Value.string) (ys:=l.map Value.string) (λW a=>by obtain⟨B2,I,f⟩:=a.q0.o;exact⟨B2,by rw[List.length_map];exact I,λb L j=>f b L (ow 2 w.heap.size 9 (sl A) (p.mW.map Value.string)) bj j⟩) (λv hv=>by obtain⟨b,_,rfl⟩:=List.mem_map.1 hv;rfl) (by rw[List.length_map,List.length_map];exact HL.o) λx2=> ?_)
   refine T.one 1 (TO.hp (vf:=λ_=> .tuple #[]) (λW a=>by
    have h:=a.rq (q':=Q5 E y w.heap.size ⟨s2,p.s,hG n p.mE,p.ma,p.mW++l,p.mX,th p.qA u,p.qB⟩ _ _) (λV h=>⟨h.q.c,h.q.s,by first|(have:=h.e;rw[Q.o,P.o];exact this)|(have:=h.q.eC;rw[Q.o]at this⊢;exact this),h.q.eS⟩);rw[<-List.map_append,<-HR.o]at h;exact rO (p:=⟨s2,p.s,hG n p.mE,p.ma,p.mW++l,p.mX,th p.qA u,p.qB⟩) (x:=⟨_,_,x2,B,_,_⟩) G HZ.o h) λz2=> ?_)
   refine TE.rt λW a=>⟨_,rfl,a⟩
end
section
variable {E:Nat->Addr}{w0 w W W':World}{y:PB}{p p2 R:fe}{x:PX}{eC eS ev lv:Value}{r rest:List En}{d B:Nat}{s2:aX}{l:List ByteArray}{o:Option Nat}{N:Nat->Prop}
theorem iK.inv{k i:Nat}(h:iK N k i p R):(fU p/\fU (cU p))/\(((cU p).ma.size=0/\(cU p).mE.size=0/\R=cU p)\/(¬((cU p).ma.size=0/\(cU p).mE.size=0)/\ ∃j,k=j+1/\ ∀n,N n-> ∃p2,FR (oZ i (cU p)) n (cU p) p2/\iK N j (i+1) p2 R)):=by
 cases k with
 |zero=>exact⟨h.1,.inl h.2⟩
 |succ j=>exact⟨h.1,h.2.imp id (λ⟨a,b⟩=>⟨a,j,rfl,b⟩)⟩
theorem KT{b:Bool}{n:Nat}(d:PW E w0 w y)(hz:fU p)(a:cU p=p)(f:n<=1073741824)(hS:FR b n p p2)(c:fU p2)(g:Hp w y.M (xN E w y p x) W):
 Calls prog 20 #[.pointer (some ⟨y.gp,0,none⟩),.bool b,.int .i64 (n:Nat)] W λe W'=> ∃h:PX,e= .returned (.tuple #[])/\Hp w y.M (xN E w y p2 h) W':=by
 cases b
 .obtain⟨s2,l,o,hF,rfl⟩:=hS;exact KP d hz a n f hF c g
 .obtain⟨s2,l,o,hF,rfl⟩:=hS;exact KQ d hz a n f hF c g
theorem DU(U:PW E w0 w y)(hN:N 1073741824)(K:Nat)(hK:K<=2000000)(H:iK N K 0 p R)(b:Hp w y.M (xN E w y p x) W):
 Calls prog 7 #[.pointer (some ⟨y.gp,0,none⟩),.slice none 0 0] W λe W'=> ∃Q:PX,e= .returned (.tuple #[])/\Hp w y.M (xN E w y R Q) W':=by
 unfold xN yv at b;refine TC.EO func7 ntmps7 b ?_;refine TC.inv (ι:=Nat×Nat×fe×PX) [(4,51)] (λi=> [(4,.int .i64 i.1)]) (λi _=>xN E w y i.2.2.1 i.2.2.2) (λi=>iK N i.2.1 i.1 i.2.2.1 R/\i.1+i.2.1<=2000000) (λi=>2000001 -i.1) (0,K,p,x) (S:=λi=>xN E w y i.2.2.1 i.2.2.2) ⟨H,by show 0+K<=2000000;omega⟩ ?_ (hS:=λ_=>rfl);clear b H hK;intro R' ⟨i,k,V,Q⟩ ⟨H,o⟩ g l A;dsimp only at H o g A⊢;obtain⟨⟨X,m⟩,G⟩:=H.inv;have n:=yo V;have B:=λW b=>rO (x:=Q) (W:=W) U X b;obtain⟨P,Y⟩:=aP (cU V);rw[<-Y]at B m G n;unfold xN yv at B⊢;have B:=aa B
 ((repeat (first|(have x:=Jm.hk A;clear A;obtain⟨_,rfl,A⟩:=x)|(have x:=Jm.ha A;clear A;obtain⟨_,_,rfl,A⟩:=x)));(have x:=Jm.hn A;clear A;subst x))
 clear H X Y;have ab:(i:Int)<=2000000:=af;have tw:IntKind.i64.wrap ((i:Int)+1)=(i:Int)+1:=xG af af;rcases G with⟨d,q,rfl⟩|⟨t,j,rfl,u⟩
 .obtain⟨c,s,I,J,L,O,eC,eS⟩:=R;obtain rfl:J=⟨#[]⟩:=AD d;obtain rfl:I=⟨#[]⟩:=AD q;clear d q n m g o;refine go ?_;refine T.one 1 (TO.hp (λW b=>B.o W b) λz=> ?_);refine TE.rt λW b=>⟨_,rfl,b⟩
 .obtain⟨p2,f,r⟩:=u _ hN;have a:=λW x b=>KT (E:=E) (x:=x) (W:=W) U m n (Nat.le_refl _) f r.sz.1 b;have C:=aa (λD l s=>g (i+1,j,p2,D) l s ⟨r,by show i+1+j<=_;omega⟩ (by show 2000001 -(i+1)<2000001 -i;omega));have F:Int.tmod (i:Int) 2=((i %2:Nat):Int):=by rw[Int.tmod_eq_emod_of_nonneg af];omega
  rcases(af:P.ma.size=0\/(P.ma.size≠0/\i %2=0)\/(P.ma.size≠0/\i %2=1/\P.mE.size=0)\/(P.ma.size≠0/\i %2=1/\P.mE.size≠0))with d|⟨d,v⟩|⟨d,v,q⟩|⟨d,v,q⟩
  .have q:P.mE.size≠0:=λh=>t ⟨d,h⟩;rw[show oZ i P=false by unfold oZ;simp[d]]at a;have n2:=p8 q;obtain⟨c,s,I,J,L,O,eC,eS⟩:=P;obtain rfl:J=⟨#[]⟩:=AD d;unfold xN yv at a;have a:=aa a;clear d q t n m o u f r g;refine go ?_;refine T.one 1 (TO.hp (λW b=>B.o W b) λz=> ?_);refine T.one 19 (TO.hp (λW b=>a.o W _ b) λD=> ?_);exact C.o D _ _ (by dsimp only;rw[show((i+1:Nat):Int)=(i:Int)+1 from rfl];((repeat (first|apply Jm.known|apply Jm.any));exact Jm.nil)) ⟨[],rfl⟩
  .rw[show oZ i P=true by unfold oZ;simp[d,v]]at a;have Z:=p8 d;rw[v]at F;replace F:Int.tmod (i:Int) 2=0:=F;obtain⟨c,s,I,J,L,O,eC,eS⟩:=P;unfold xN yv at a;have a:=aa a;clear d v t n m o u f r g;refine go ?_;refine T.one 1 (TO.hp (λW b=>B.o W b) λz=> ?_);refine T.one 19 (TO.hp (λW b=>a.o W _ b) λD=> ?_);exact C.o D _ _ (by dsimp only;rw[show((i+1:Nat):Int)=(i:Int)+1 from rfl];((repeat (first|apply Jm.known|apply Jm.any));exact Jm.nil)) ⟨[],rfl⟩
  .rw[show oZ i P=true by unfold oZ;simp[d,v,q]]at a;have Z:=p8 d;rw[v]at F;replace F:Int.tmod (i:Int) 2=1:=F;obtain⟨c,s,I,J,L,O,eC,eS⟩:=P;obtain rfl:I=⟨#[]⟩:=AD q;unfold xN yv at a;have a:=aa a;clear d v t n m o u f r g q;refine go ?_;refine T.one 1 (TO.hp (λW b=>B.o W b) λz=> ?_);refine T.one 19 (TO.hp (λW b=>a.o W _ b) λD=> ?_);exact C.o D _ _ (by dsimp only;rw[show((i+1:Nat):Int)=(i:Int)+1 from rfl];((repeat (first|apply Jm.known|apply Jm.any));exact Jm.nil)) ⟨[],rfl⟩
  .rw[show oZ i P=false by unfold oZ;simp[d,v,q]]at a;have Z:=p8 d;have n2:=p8 q;rw[v]at F;replace F:Int.tmod (i:Int) 2=1:=F;obtain⟨c,s,I,J,L,O,eC,eS⟩:=P;unfold xN yv at a;have a:=aa a;clear d v t n m o u f r g q;refine go ?_;refine T.one 1 (TO.hp (λW b=>B.o W b) λz=> ?_);refine T.one 19 (TO.hp (λW b=>a.o W _ b) λD=> ?_);exact C.o D _ _ (by dsimp only;rw[show((i+1:Nat):Int)=(i:Int)+1 from rfl];((repeat (first|apply Jm.known|apply Jm.any));exact Jm.nil)) ⟨[],rfl⟩
end
def sV:List Int:= [1,2,3]++List.replicate 29 0
theorem zQ:dn sV:=⟨rfl,cm an⟩
abbrev Ut:List (List Value):= [[bF],[sN],[sN],uU,uU,[.int .i64 0]]
def In(ml lT a b:ByteArray)(host d:List Int)(c:Int):fe:=⟨oA true ml a av d c,oA false lT b host av c,⟨#[]⟩,⟨#[]⟩,[],[],none,none⟩
section
variable {E:Nat->Addr}{w0 w w' W:World}{g gh lo hi:Nat}{s:aX}{y:PB}{p:fe}
theorem gU.loc(h:gU (λ_=>False) E w g gh s)(h1:w'.heap[g]?=w.heap[g]?)(b:w'.heap[gh]?=w.heap[gh]?):gU (λ_=>False) E w' g gh s:=by
 obtain⟨d,e,a⟩:=h.B;refine⟨⟨d,h1.trans e,?_⟩,b.trans h.eB,h.ok,h.gone⟩;rcases a with a|⟨g,o,c,_,_,f,_⟩
 .exact .inl a
 .exact f.2.2.elim
structure v8(E:Nat->Addr)(B:Nat)(s:aX)(x:Nat×Nat)(lo hi:Nat)(W:World):Prop where
 e:gU (λ_=>False) E W x.1 x.2 s
 g:lo<=x.1/\x.1<hi
 h:lo<=x.2/\x.2<hi
 b:B<=lo
theorem v8.loc(B:Nat)(s:aX)(x:Nat×Nat)(lo hi:Nat)(W a:ay)(h:v8 E B s x lo hi W)(c:∀k,lo<=k/\k<hi->a.heap[k]?=W.heap[k]?)(_:W.heap.size<=a.heap.size):v8 E B s x lo hi a:=⟨h.e.loc (c _ h.g) (c _ h.h),h.g,h.h,h.b⟩
theorem MB{B:Nat}(e:B<=w.heap.size)(k:Env w E)(f:30<=w.heap.size)(h:Bool)(a c:bB)(host d:aR)(b:Int)(l:a.size<=40)(m:py a=true)(i:c.size<=64)(n:dn host)(o:dn d):
 Calls prog 6 #[.agg (mw h a c host d b)] w λr w'=> ∃x,r= .returned (.tuple #[.pointer (some ⟨x.1,0,none⟩),.nilIface])/\v8 E B (oA h a c host d b) x w.heap.size w'.heap.size w'/\Below w.heap.size w w':=
 (aaV k f h a c host d b l m i n o).mono λr w' ⟨g,gh,p,q,s,j,t⟩=>⟨(g,gh),p,⟨j,⟨q,by obtain⟨_,e,_⟩:=j.B;exact Lay.inside e⟩,⟨s,Whole.inside j.eB⟩,e⟩,t⟩
structure nP(E:Nat->Addr)(p:fe)(y:PB)(lo hi:Nat)(W:World):Prop where
 c:gU (λ_=>False) E W y.gC y.hC p.c
 s:gU (λ_=>False) E W y.gS y.hS p.s
 b:Lay W y.gp 35 [[.pointer (some ⟨y.gC,0,none⟩)],[.pointer (some ⟨y.gS,0,none⟩)],[sN],[sN],[.slice none 0 0],[.slice none 0 0],[.nilIface],[.nilIface]]
 lo:∀m∈y.M,lo<=m/\m<hi
 ne:y.gC≠y.gS
 neh:y.hC≠y.hS
theorem nP.loc(p:fe)(y:PB)(lo hi:Nat)(W d:ay)(h:nP E p y lo hi W)(a:∀k,lo<=k/\k<hi->d.heap[k]?=W.heap[k]?)(_:W.heap.size<=d.heap.size):nP E p y lo hi d:=
 have a:=λk e=>a k (h.lo k e)
 ⟨h.c.loc (a _ bj) (a _ bj),h.s.loc (a _ bj) (a _ bj),(a y.gp bj).trans h.b,h.lo,h.ne,h.neh⟩
theorem nP.of{B i1 i2 i3 j:Nat}{o p:aX}{f xs:Nat×Nat}{q s t v x:Nat}{M:iT}{r:List En}{m:Bool}(n:Hp w M r W)(J:B<=x)(y:r[i1]?=some (fa (λk=>q<=k/\k<s) (v8 E B o f q s) (λW z=>v8.loc B o f q s W z)))(A:r[i2]?=some (fa (λk=>t<=k/\k<v) (v8 E B p xs t v) (λW z=>v8.loc B p xs t v W z)))
 (D:r[i3]?=some (bl j x m (kL 35 [8]) [[.pointer (some ⟨f.1,0,none⟩),.pointer (some ⟨xs.1,0,none⟩),sN,sN,.slice none 0 0,.slice none 0 0,.nilIface,.nilIface]])) (C:i1≠i2):nP E ⟨o,p,⟨#[]⟩,⟨#[]⟩,[],[],none,none⟩ ⟨x,f.1,f.2,xs.1,xs.2⟩ B W.heap.size W:=by
 have i:v8 E B o f q s W:=n.en _ (ah y);have l:v8 E B p xs t v W:=n.en _ (ah A);have I:=n.en _ (ah D);have F:=n.ins _ (ah y);have G:=n.ins _ (ah A);have K:=n.ins _ (ah D) x rfl;have u:=n.uniq y A C;have a:=i.g;have b:=i.h;have c:=l.g;have d:=l.h;have L:=i.b;have N:=l.b;have O:=F _ i.g;have P:=F _ i.h;have Q:=G _ l.g;have R:=G _ l.h;refine⟨i.e,l.e,I.2,λm H=> ?_,λe=>u xs.1 l.g ?_,λe=>u xs.2 l.h ?_⟩
 .simp only[List.mem_cons,List.not_mem_nil,or_false]at H;rcases H with rfl|rfl|rfl|rfl|rfl<;>omega
 .have e:f.1=xs.1:=e;exact e▸i.g
 .have e:f.2=xs.2:=e;exact e▸i.h
theorem vg{i B k:Nat}{t:fg}{xs:gF}(h:(ow i B t (.slice none 0 0) xs).B k):False:=by cases (show none=some k from h)
theorem nP.hp{e f:aX}(h:nP E ⟨e,f,⟨#[]⟩,⟨#[]⟩,[],[],none,none⟩ y lo hi W)(p:∀m∈y.M,m<W.heap.size):Hp W y.M (xN E W y ⟨e,f,⟨#[]⟩,⟨#[]⟩,[],[],none,none⟩ ⟨yv W y ⟨e,f,⟨#[]⟩,⟨#[]⟩,[],[],none,none⟩ ⟨[],0,(none,0,0),(none,0,0),.nilIface,.nilIface⟩,0,(none,0,0),(none,0,0),.nilIface,.nilIface⟩) W:=by
 have i:Hp W y.M (yv W y ⟨e,f,⟨#[]⟩,⟨#[]⟩,[],[],none,none⟩ ⟨[],0,(none,0,0),(none,0,0),.nilIface,.nilIface⟩) W:=by
  refine(((Hp.nil _ _).cons (wV _ _ _) (λk a=>(vg a).elim) (λ_ k a=>(vg a).elim) (λ_ h=>by cases h)).cons (wV _ _ _) (λk a=>(vg a).elim) (λ_ k a=>(vg a).elim) (λ_ _ k a=>(vg a).elim)).cons ⟨rfl,h.b⟩ (λk a=> ?_) (λ_ k a=> ?_) (λx d k a i=> ?_)
  .obtain rfl:k=y.gp:=a;exact Lay.inside h.b
  .obtain rfl:k=y.gp:=a;simp
  .simp only[List.mem_cons,List.not_mem_nil,or_false]at d;rcases d with rfl|rfl<;>exact vg i
 have j:∃g,Whole W y.gC 77 g:=(show od _ E W y.gC y.hC e from .inl h.c).BZ;have l:∃g,Whole W y.gS 77 g:=(show od _ E W y.gS y.hS f from .inl h.s).BZ
 have o:∀k∈y.N,k≠y.gp:=λk a=>by
  simp only[List.mem_cons,List.not_mem_nil,or_false]at a;obtain⟨_,j⟩:=j;obtain⟨_,l⟩:=l;rcases a with rfl|rfl|rfl|rfl
  .exact fW j h.b an
  .exact fW h.c.eB h.b an
  .exact fW l h.b an
  .exact fW h.s.eB h.b an
 refine Hp.st (z:=true) i (λk a=>⟨p k (.tail _ a),λx d n=> ?_⟩) (Q5.stays ⟨.inl (h.c.mono λ_ h=>h.elim),.inl (h.s.mono λ_ h=>h.elim),rfl,rfl⟩ λx d k a=> ?_)
 all_goals
  simp only[List.mem_cons,List.not_mem_nil,or_false]at d;rcases d with rfl|rfl|rfl
 .exact o k a n
 .exact vg n
 .exact vg n
 .obtain rfl:k=y.gp:=a;exact⟨λq=>o _ q rfl,λa=>a.2 (.head _),λg=>pT h.b an⟩
 .exact(vg a).elim
 .exact(vg a).elim
theorem nP.pw(h:nP E p y lo hi W)(a:Env w0 E)(b:30<=w0.heap.size)(c:Below w0.heap.size w0 W)(hl:w0.heap.size<=lo):PW E w0 W y:=⟨a,c,b,λm d=>ap hl (h.lo m d).1,h.ne,h.neh⟩
theorem nP.nin{b:Nat}{t:fg}{cs:gJ}(h:nP E p y lo hi W)(a:Whole W b t cs)(h1:t≠35)(d:t≠77)(e:t≠102):b∉y.M:=λf=>by
 obtain⟨_,g⟩:=(show od _ E W y.gC y.hC p.c from .inl h.c).BZ;obtain⟨_,i⟩:=(show od _ E W y.gS y.hS p.s from .inl h.s).BZ;simp only[List.mem_cons,List.not_mem_nil,or_false]at f;rcases f with rfl|rfl|rfl|rfl|rfl
 .exact fW a h.b h1 rfl
 .exact fW a g d rfl
 .exact fW a h.c.eB e rfl
 .exact fW a i d rfl
 .exact fW a h.s.eB e rfl
theorem ML{B n:Nat}{t:fg}{x:Option Addr×Nat×Nat}{xs:gF}(h:W.ownsRow B t 1 (sl x) n xs):x.2.1=n:=by
 rcases h.2 with⟨h,a⟩|⟨q,b,c,h,_⟩
 .injection h with _ h _;rw[h,a]
 .injection h with _ h _
theorem abf(o:Env w E)(i:30<=w.heap.size)(a b:bB)(q:a.size<=64)(s:b.size<=64)(e:Int):
 Calls prog 11 #[.string a,.string b,.int .i64 e] w λr w'=> ∃y:PB,r= .returned (.tuple #[.pointer (some ⟨y.gp,0,none⟩),.bool true])/\nP E (In ⟨#[99]⟩ ⟨#[115]⟩ a b sV (lX sV) e) y w.heap.size w'.heap.size w'/\Below w.heap.size w w':=by
 have k:=aa (λW (c:Below w.heap.size w W)=>o.below c);have t:=aa (λW (c:Below w.heap.size w W)=>show 30<=W.heap.size from ap i c.size);obtain⟨d,l⟩:=eZ (lX sV);have B:d.length=32:=by rw[l.o];exact mN _
 have n:=aa (by rw[l.o];exact Kg _:dn d);have C:=aa q;have D:=aa s;have F:sV.length=32:=rfl;have u:=aa zQ;have j:=aa (λW h f=>sm sV zQ.1 zQ.2 W h f);rw[<-l.o]at j;obtain⟨g,m⟩:=eZ sV;have G:g.length=32:=by rw[m.o];rfl
 have u:=aa (by rw[m.o];exact zQ:dn g);clear q s o i;refine TC.enter func11 ntmps11 [] [] (Hp.nil _ _) ?_;refine T.one 1 (TO.J (z:=32) λI=> ?_);refine T.put 0 [g.map (.int .u8)] (he:=by rw[m.o];rfl) ?_;refine T.one 2 (TO.qk (λW c=>j.o W (k.o W c.below).words (k.o W c.below).first) ?_);refine T.bd 4 Ut (v:= .agg (mw true ⟨#[99]⟩ a av d e)) (hv:=by simp[mw,Value.cells,ai,av];rfl) ?_;refine T.one 5 (TO.cf (vf:=λx=> .tuple #[.pointer (some ⟨x.1,0,none⟩),.nilIface]) (v8.loc w.heap.size (oA true ⟨#[99]⟩ a av d e)) (λW c=>MB c.base.size (k.o W c.below) (t.o W c.below) true ⟨#[99]⟩ a av d e an an C.o dn.av n.o) λA J K=> ?_);refine T.bd 3 Ut (v:= .agg (mw false ⟨#[115]⟩ b g av e)) (hv:=by simp[mw,Value.cells,ai,av];rfl) ?_;refine T.one 4 (TO.cf (vf:=λx=> .tuple #[.pointer (some ⟨x.1,0,none⟩),.nilIface]) (v8.loc w.heap.size (oA false ⟨#[115]⟩ b g av e)) (λW c=>MB c.base.size (k.o W c.below) (t.o W c.below) false ⟨#[115]⟩ b g av e an an D.o u.o dn.av) λxs L M=> ?_);refine T.one 3 (TO.J (z:=8) λH=> ?_);refine TE.zc λW c=>⟨⟨H,A.1,A.2,xs.1,xs.2⟩,rfl,?_,c.below⟩;rw[<-l.o,<-m.o];exact nP.of c (c.ge (p:=3) rfl) (i1:=1) (i2:=2) (i3:=3) rfl rfl rfl an
end
end Go.Proofs.P
