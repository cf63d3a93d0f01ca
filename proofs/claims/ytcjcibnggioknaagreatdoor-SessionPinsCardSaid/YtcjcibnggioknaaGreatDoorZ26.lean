/- Lemmas on which SessionPins rests. -/
import Derived.Test.YtcjcibnggioknaaGreatDoorZ23
import Derived.Test.YtcjcibnggioknaaGreatDoorZ24
set_option maxRecDepth 100000
set_option maxHeartbeats 40000000
set_option linter.unusedVariables false
open Go.RowKit Go.Spk
open Go.Proofs.Tryz
namespace Go.Proofs.P
def aac(E:Nat->Addr)(w:World):Option Nat->Value->Prop
 |none,v=>v= .nilIface
 |some k,v=>mH E w k v
def xP(E:Nat->Addr)(a b:Nat)(w:World):Option Nat->Value->Prop
 |none,v=>v= .nilIface
 |some k,v=>v=bM (E k)\/ ∃p s,v=dl p/\(a<=p/\p<b)/\Whole w p 86 #[.string s,bM (E k)]
theorem xP.YB{E:gn}{a b:Nat}{w:ay}{o:Option Nat}{v:cH}(h:xP E a b w o v):aac E w o v:=by
 cases o with
 |none=>exact h
 |some k=>exact h.imp id λ⟨p,s,c,_,d⟩=>⟨p,s,c,d⟩
theorem xP.loc{E:gn}{o:Option Nat}(v:cH)(a b:Nat)(W c:ay)(h:xP E a b W o v)(e:∀k,a<=k/\k<b->c.heap[k]?=W.heap[k]?)(_:W.heap.size<=c.heap.size):xP E a b c o v:=by
 cases o with
 |none=>exact h
 |some k=>exact h.imp id λ⟨p,s,f,d,g⟩=>⟨p,s,f,d,(e p d).trans g⟩
theorem Qc{E:gn}{w0 w:ay}{g gh:Nat}{vw re e:cH}{s:aX}(cx:Ctx E w0 g w)(b:bC s)(h:cP w g gh vw re e s)(row:gJ)(a:s.on.asked=false\/s.on.done=true):
 Calls prog 118 #[.pointer (some ⟨g,0,none⟩),.agg row] w λr c=>r= .returned (bM (E 5))/\Below w.heap.size w c:=by
 cases d:s.on.asked<;>cases f:s.on.done
 all_goals first
 |(rw[d,f]at a;exact absurd a an)
 |refine TC.enter func118 ntmps118 _ _ (h.hr b) ?_
  refine T.one 0 (TO.J (z:=row.size) λj=> ?_);refine T.lw 0 _ (cx.env.gY.var 5 an) ga ?_;exact TE.rv λW i=>⟨rfl,i.below⟩
theorem NJ{E:gn}{w0 w:ay}{g gh:Nat}{vw re e:cH}{s:aX}(cx:Ctx E w0 g w)(B:bC s)(h:cP w g gh vw re e s)(k:Int)(C vs D F:cH)(L:eL)(hm:iB (· ≠g) w vs (L.map Value.string))(x y z:bB)(l:L= [x,y,z])(G:x.size<=1000000)(P:s.on.asked=true)(Q:s.on.done=false)(i:Nat)(d:fy x 32 9= .inr i):
 Calls prog 118 #[.pointer (some ⟨g,0,none⟩),.agg (dP k C vs D F)] w λr m=> ∃v,r= .returned v/\xP E w.heap.size m.heap.size m (some i) v/\Below w.heap.size w m:=by
 obtain⟨R,o,c,rfl,H,I,q⟩:=zN hm l;have c0:=q 0 x (by rw[l];rfl);have J:=eh (n:=32) (a:=(0:Int));rw[l];unfold dP;refine TC.enter func118 ntmps118 _ _ (h.hr B) ?_;refine T.one 0 (TO.J (z:=5) λS=> ?_);refine T.lw 3 _ c0 ga ?_
 refine T.one 4 (TO.cf (vf:=λp=> .tuple #[.agg (ai .u8 (List.replicate 32 0)),.iface 82 (.pointer (some ⟨p,0,none⟩))]) (p:=λp t d W=>w.heap.size<=p/\(t<=p/\p<d)/\Whole W p 86 #[.string ⟨#[107,101,121]⟩,bM (E i)]) (λp t d W K h M _=>⟨h.1,h.2.1,(M p h.2.1).trans h.2.2⟩) (λW b=>(De E x G W (cx.iC b.below).env.gY (cx.iC b.below).hw).mono λr K ⟨f,j⟩=>by
  rw[d]at f;obtain⟨v,N,p,O,u,A⟩:=f;exact⟨p,by rw[N,O],⟨ap b.base.size u,⟨u,A.inside⟩,A⟩,j⟩) λp U V=> ?_)
 refine T.one 8 (TO.J (z:=32) λX=> ?_);refine TE.rv λW b=>⟨_,rfl,?_,b.below⟩;obtain⟨f,_,j⟩:=b.en _ (ah (i:=2) rfl);exact .inr ⟨p,_,rfl,⟨f,j.inside⟩,j⟩
theorem Dg{E:gn}{w0 w:ay}{g gh:Nat}{vw re:cH}{s:aX}(cx:Ctx E w0 g w)(H:bC s)(h:cP w g gh vw re .nilIface s)(m:de)(hk:m.kind=31)(vu vs vn vb:cH)(hm:iB (· ≠g) w vs (m.S.map Value.string))(x y z:bB)(F:m.S= [x,y,z])(hx:x.size<=100000)(Q:z.size<=1000000)(t I:bB)(a:fy x 32 9= .inl t)(b:fy z 64 10= .inl I)(P:y.size=32)(u:di s.on.draw (bI y)≠0)(J:s.cl=true)(ha:s.on.asked=true)(hd:s.on.done=false)(hz:te s.on)(R:oO s)
 (hv:bI t=s.rZ->je (bI t) (fQ {s.on with p1:=bI y,sec:=eE (di s.on.draw (bI y)),hb:=x}) (bI I)=true):
 Calls prog 118 #[.pointer (some ⟨g,0,none⟩),.agg (dP m.kind vu vs vn vb)] w λr w'=>r= .returned (if bI t=s.rZ then .nilIface else bM (E 13))/\cP w' g gh vw re .nilIface (fV s m).1/\w.grownBy w' (some g):=by
 obtain⟨gs,o,c,rfl,l,ao,n⟩:=zN hm F;have c0:=n 0 x (by rw[F];rfl);have c1:=n 1 y (by rw[F];rfl);have c2:=n 2 z (by rw[F];rfl);rw[F,hk];obtain⟨A,d⟩:∃S,Hid (S={s with on:={s.on with p1:=bI y,sec:=eE (di s.on.draw (bI y)),hb:=x}}):=⟨_,aa rfl⟩;obtain⟨j,f⟩:=eZ (bI t);obtain⟨K,p⟩:=eZ (bI I);obtain⟨B,C⟩:=eZ (fQ A.on)
 have hA:Hid ((fV s m).1=if j=s.rZ then jH A j else A):=aa (by
  have hs:gZ s y=({s with on:={s.on with p1:=bI y,sec:=eE (di s.on.draw (bI y))}},none):=by
   unfold gZ;rw[if_neg (by rw[P];decide)];dsimp only;rw[if_neg u,if_neg u,if_pos J]
  unfold fV;rw[if_neg (by rw[ha,hd];decide),F];show(match fy x 32 9 with| .inr k=>(s,some k)| .inl t=>match fy z 64 10 with| .inr k=>(s,some k)| .inl I=>match gZ s y with|(s1,some k)=>(s1,some k)|(s1,none)=>_).1=_;rw[a,b,hs,f.o,d.o];dsimp only;rw[show[x,y,z].getD 0 ⟨#[]⟩=x from rfl]
  by_cases i:bI t=s.rZ
  .rw[if_neg (λh=>h i),if_pos i,if_neg (by rw[hv i];decide)]
  .rw[if_pos i,if_neg i])
 have U:t.size=32:=by
  unfold fy at a;dsimp only at a
  split at a
  .cases a
  .split at a
   .rename_i V;injection a with a;subst a;exact V.2
   .cases a
 have X:I.size=64:=by
  unfold fy at b;dsimp only at b
  split at b
  .cases b
  .split at b
   .rename_i V;injection b with b;subst b;exact V.2
   .cases b
 have D:bC A:=by rw[d.o];exact{H with mh:=⟨by rw[aj,P],c8 y⟩,iH:=⟨tN _,cm (oV _)⟩}
 have L:j.length=32:=by rw[f.o,aj,U]
 have q:dn j:=⟨L,by rw[f.o];exact c8 _⟩;have Y:K.length=64:=by rw[p.o,aj,X]
 have Z:jr K:=by rw[p.o];exact c8 _
 have M:dn B:=by rw[C.o];exact uy _
 have ab:=M.1;have he:=λw=>sn L H.rZ.1 w;have N:bI (strOfNums B)=B:=cJ (jG M.2);have O:Hid (te A.on):=aa (by rw[d.o];exact⟨hz.l0,hz.l1,hz.i0,hz.i1,hx⟩);have ad:Hid (oO A):=aa (by rw[d.o];exact⟨R.wn,R.out,R.since⟩);have HV:Hid (j=s.rZ->je j B K=true):=aa (by rw[f.o,C.o,p.o,d.o];exact hv);have HK:=aa a;have HG:=aa b;rw[<-f.o];unfold dP;clear n hm hv a b;refine TC.enter func118 ntmps118 _ _ (h.hp H) ?_;refine T.one 0 (TO.J (z:=5) λbm=> ?_);refine T.lw 3 _ c0 (ek l) ?_;refine T.one 4 (TO.qk (v:= .tuple #[.agg (ai .u8 j),.nilIface]) (λW e=>by have:=De E x af W (cx.hp e).env.gY (cx.hp e).hw;rw[HK.o]at this;rw[f.o];exact this) ?_);refine T.one 8 (TO.J (z:=32) λbk=> ?_);refine T.lw 3 _ c2 (ek l) ?_;refine T.one 4 (TO.qk (v:= .tuple #[.agg (ai .u8 K),.nilIface]) (λW e=>by have:=JD E z Q W (cx.hp e).env.gY (cx.hp e).hw;rw[HG.o]at this;rw[p.o];exact this) ?_);refine T.one 8 (TO.J (z:=64) λbg=> ?_);refine T.lw 4 _ c1 (ek l) ?_;refine T.one 5 (TO.BZ (s':={s with on:={s.on with p1:=bI y,sec:=eE (di s.on.draw (bI y))}}) {H with mh:=⟨by rw[aj,P],c8 y⟩,iH:=⟨tN _,cm (oV _)⟩} (λW e=>SJ J H (eF e) y P u) ?_);refine T.lw 4 _ c0 (ek l) ?_;refine T.qm 4 0 8 (.agg (tD {s.on with p1:=bI y,sec:=eE (di s.on.draw (bI y)),hb:=x})) ?_;refine T.one 5 (TO.qk (v:= .agg (ai .u8 B)) (λW e=>by rw[C.o,d.o];exact J7 (s:={s with on:={s.on with p1:=bI y,sec:=eE (di s.on.draw (bI y)),hb:=x}}) (d.o▸D) (by have:=O.o;rw[d.o]at this;exact this) (cx.hp e).env.words (cx.hp e).env.first) ?_);refine T.one 6 (TO.J (z:=32) λbh=> ?_)
 by_cases i:j=s.rZ
 .have hq:=decide_eq_true i;have G:=aa i;clear i;refine TC.rg [] ?_;refine TC.rg [] ?_;refine T.Xv 2 4 B ?_;refine T.one 4 (TO.qk (v:= .bool true) (λW e=>by have:=Ck j q.1 q.2 (strOfNums B) (by rw[<-aj,N,ab];decide) K Y Z W (cx.hp e).env.words (cx.hp e).env.first (cx.hp e).env.ord;rw[N,HV.o G.o]at this;exact this) ?_);refine T.put 0 (eY gh vw re .nilIface A) (he:=by rw[d.o];kernel_rfl) ?_;refine T.one 2 (TO.BZ (Ap D q) (λW e=>FV (cx.hp e) D (eF e) j q O.o ad.o.room) ?_);exact TE.rv λW e=>⟨by rw[if_pos G.o],by rw[hA.o,if_pos G.o];exact e.uT rfl⟩
 .have hq:=decide_eq_false i;have G:=aa i;clear i;refine TC.rg [] ?_;refine T.lw 0 _ (cx.env.gY.var 13 an) (by have:=cx.hg;have:Cn 13<30:=an;simp;omega) ?_;exact TE.rv λW e=>⟨by rw[if_neg G.o],by rw[hA.o,if_neg G.o,d.o];exact e.uT al⟩
theorem JK{E:gn}{w0 w:ay}{g gh:Nat}{vw re:cH}{s:aX}(cx:Ctx E w0 g w)(p:bC s)(h:cP w g gh vw re .nilIface s)(m:de)(q:m.kind=31)(j vs k l:cH)(hm:iB (· ≠g) w vs (m.S.map Value.string))(x y z:bB)(t:m.S= [x,y,z])(u:x.size<=100000)(b:z.size<=1000000)(c n:bB)(d:fy x 32 9= .inl c)(e:fy z 64 10= .inl n)(v:y.size=32)(f:di s.on.draw (bI y)≠0)(i:s.cl=true)(A:s.on.asked=true)(B:s.on.done=false)(hz:te s.on)(C:oO s)(a:bI c≠s.rZ):
 Calls prog 118 #[.pointer (some ⟨g,0,none⟩),.agg (dP m.kind j vs k l)] w λr o=>r= .returned (bM (E 13))/\cP o g gh vw re .nilIface (fV s m).1/\w.grownBy o (some g):=by
 have:=Dg cx p h m q j vs k l hm x y z t u b c n d e v f i A B hz C (λh=>absurd h a);rwa[aq a]at this
theorem Qd{E:gn}{w0 w:ay}{g gh:Nat}{vw re:cH}{s:aX}(cx:Ctx E w0 g w)(p:bC s)(h:cP w g gh vw re .nilIface s)(m:de)(q:m.kind=31)(k vs l n:cH)(hm:iB (· ≠g) w vs (m.S.map Value.string))(x y z:bB)(t:m.S= [x,y,z])(u:x.size<=100000)(b:z.size<=1000000)(a c:bB)(d:fy x 32 9= .inl a)(e:fy z 64 10= .inl c)(v:y.size=32)(f:di s.on.draw (bI y)≠0)(i:s.cl=true)(A:s.on.asked=true)(B:s.on.done=false)(hz:te s.on)(C:oO s)(j:bI a=s.rZ)(hv:je (bI a) (fQ {s.on with p1:=bI y,sec:=eE (di s.on.draw (bI y)),hb:=x}) (bI c)=true):
 Calls prog 118 #[.pointer (some ⟨g,0,none⟩),.agg (dP m.kind k vs l n)] w λr o=>r= .returned .nilIface/\cP o g gh vw re .nilIface (fV s m).1/\w.grownBy o (some g):=by
 have:=Dg cx p h m q k vs l n hm x y z t u b a c d e v f i A B hz C (λ_=>hv);rwa[aJ j]at this
def Zz(p:List Int):de:=⟨30,[],[strOfNums p],[],[]⟩
theorem ZA{p:aR}(a:p.length=32):Cb (Zz p):=by
 refine⟨⟨#[115]⟩,(show dh 30=_ from by decide),?_⟩;show I7 [115] (Zz p);exact⟨⟨_,_,rfl,by rw[bG,a];decide⟩,rfl,rfl,rfl,rfl⟩
theorem Sj{p:aR}(a:p.length=32):(db (Zz p)).size=37:=by
 rw[<-aj,pB (m:=Zz p) (f:=⟨#[115]⟩) (show dh 30=_ from by decide)];show([(30:Int)]++(cG (strOfNums p)++ [])).length=37;simp only[List.length_append,eQ,bG,a,List.length_cons,List.length_nil]
theorem Uc(l:aR):dn (mJ l):=⟨m9 _,cm (oV _)⟩
theorem Cp(s:aX)(m own:de)(a:s.cl=true)(b:s.on.eN=false)(c:s.on.iD=true)(d:fk s.on.xL= .inl own)(e:io own m=none):jj s m=({s with on:={s.on with xM:=db m,eN:=true}},some 12):=by
 unfold jj;simp only[b,a,c,d,e,if_true,if_false,Bool.false_eq_true]
theorem Cq(s:aX)(m own:de)(a:s.cl=false)(b:s.on.eN=false)(c:s.on.iD=true)(d:fk s.on.xM= .inl own)(e:io m own=none):jj s m=({s with on:={s.on with xL:=db m,eN:=true}},some 12):=by
 unfold jj;simp only[b,a,c,d,e,if_true,if_false,Bool.false_eq_true]
def inX(a b:ByteArray):CU:={ti with i0:=a,i1:=b}
theorem U4{E:gn}{w0 w:ay}{g gh:Nat}{vw re e:cH}{s:aX}(cx:Ctx E w0 g w)(a:bC s)(h:cP w g gh vw re e s)(row:gJ)(d:s.on.eN=true):
 Calls prog 116 #[.pointer (some ⟨g,0,none⟩),.agg row] w λr b=>r= .returned (bM (E 5))/\Below w.heap.size w b:=by
 refine TC.enter func116 ntmps116 _ _ (h.hr a) ?_;refine T.one 0 (TO.J (z:=row.size) λf=> ?_);refine T.lw 0 _ (cx.env.gY.var 5 an) ga ?_;exact TE.rv λW c=>⟨rfl,c.below⟩
theorem YR{E:gn}{w0 w:ay}{g gh:Nat}{vw re:cH}{s:aX}(cx:Ctx E w0 g w)(Y:bC s)(h:cP w g gh vw re .nilIface s)(O:iA E w gh s.eB)(m:de)(e:m.kind=20)(ad:Cb m)(aj ao ax az:cH)(hm:mV (· ≠g) w aj ao ax az m)(own:de)(j:fk (if s.cl then s.on.xL else s.on.xM)= .inl own)(l:own.kind=20)(aB:(if s.cl then s.on.xL else s.on.xM).size<=32768)(F:s.on.eN=false)(G:s.on.iD=true)(hB:(if s.cl then io own m else io m own)=none\/(own.B= [false]/\m.B= [false]))(hr:oO s)(aC:s.pm.size<=64):
 Calls prog 116 #[.pointer (some ⟨g,0,none⟩),.agg (dP m.kind aj ao ax az)] w λr w'=>(∃v,r= .returned v/\xP E w.heap.size w'.heap.size w' (jj s m).2 v)/\cP w' g gh vw re .nilIface (jj s m).1/\w.grownBy w' (some g):=by
 have KM:=aa (XX.XJ e ad);have KO:=aa (XX.XJ l (yp aB j));obtain⟨Z,rfl⟩:=iB.form hm.U;obtain⟨xs,rfl⟩:=iB.form hm.S;obtain⟨xn,rfl⟩:=iB.form hm.N.choose_spec.1;obtain⟨xb,rfl⟩:=iB.form hm.B;have HM:∀W,Hid (ci [g] w W->mV (· ≠g) W (sl Z) (sl xs) (sl xn) (sl xb) m):=λW=>aa λk=>hm.grow k (λi P=>by simpa using P);obtain⟨f,q⟩:=eZ (db m);obtain⟨t,n⟩:=eZ (nQ s mC 32);have H:∀z∈t,0<=z/\z<=255:=by rw[n.o];exact Dl s _ _
 have I:t.length=32:=by rw[n.o];exact wv s _ _ an
 have aP:(strOfNums t).size=32:=by rw[bG,I]
 have aR:bI (strOfNums t)=t:=cJ H;obtain⟨PB,o⟩:=eZ (mJ t);have aE:PB.length=32:=by rw[o.o];exact m9 _
 have aS:bC {s with on:={s.on with xM:=f,eN:=true}}:={Y with};have aU:bC {s with on:={s.on with xL:=f,eN:=true}}:={Y with};have aF:gh≠g:=fW O h an;have j:=aa j;have hB:=aa hB;have hm:=aa hm;have e:=aa e;rw[e.o];unfold dP;cases u:s.cl
 all_goals
  refine TC.enter func116 ntmps116 _ _ (h.hp Y) ?_;refine T.one 0 (TO.J (z:=5) λbm=> ?_);refine TC.rg [18,19,36] ?_
  refine T.one 4 (TO.qk (v:= .string f) (λW c=>by
   have:=EB W.heap.size (sl Z) (sl xs) (sl xn) (sl xb) m ad W (mV.at_ ((HM W).out c.base)) (ak _) (cx.hp c).env.rows;rw[e.o,<-q.o]at this;exact this) ?_)
  have K:=j.o;have hz:=aB;have hb:=hB.o;simp only[u,if_true,if_false,Bool.false_eq_true]at K hz hb;have K:=aa K;have hb:=aa hb;have l:=aa l;refine TC.rg [114000] ?_;refine T.one 10 (TO.cf (vf:=λx=> .tuple #[.agg #[.int .i64 20,sl x.1,sl x.2.1,sl x.2.2.1,sl x.2.2.2],.nilIface]) (j6.loc own) (λW c=>(kh E _ hz W (cx.hp c).env (cx.hp c).hw).mono λr M ⟨h1,d⟩=> ?_) λx l0 l1=> ?_)
  .rw[K.o]at h1;obtain⟨vu,vs,vn,vb,D,Q⟩:=h1;rw[l.o]at D;obtain⟨x,⟨rfl,rfl,rfl,rfl⟩,R⟩:=j6.of Q;exact⟨x,D,R,d⟩
  refine T.one 14 (TO.J (z:=5) λbo=> ?_);refine T.one 3 (TO.J (z:=10) λbb=> ?_)
 .refine T.lk 1 4 5 (.agg #[.int .i64 20,sl Z,sl xs,sl xn,sl xb]) ?_;refine T.lk 3 4 5 (.agg #[.int .i64 20,sl x.1,sl x.2.1,sl x.2.2.1,sl x.2.2.2]) ?_;have V:=λW=>aa λ(c:mV (· ≠g) W (sl Z) (sl xs) (sl xn) (sl xb) m) x l0 l1 (hL:j6 own x l0 l1 W) (en:Env W E)=>LU E m own KM.o KO.o W c hL (hb.o.imp id And.symm) en;simp only[e.o,l.o,dP]at V;cases J:io m own with
  |none=>
   have A:=aa (Cq s m own u F G K.o J)
   refine T.one 4 (TO.cf (vf:=λ(p:Nat)=> .tuple #[.agg (Yo (λ_=>⟨#[]⟩) false false),.iface 82 (.pointer (some ⟨p,0,none⟩))]) (p:=λp lo P W=>w.heap.size<=p/\(lo<=p/\p<P)/\ ∃C,Whole W p 86 #[.string C,bM (E 12)]) (λp lo P W M h hb _=>⟨h.1,h.2.1,h.2.2.imp λ_ d=>(hb p h.2.1).trans d⟩) (λW c=>((V W).out ((HM W).out c.base) _ _ _ (c.en _ (ah (i:=2) rfl)) (cx.hp c).env).mono λr M ⟨h1,d⟩=>by
    rw[J]at h1;obtain⟨p,C,D,Q,R⟩:=h1;exact⟨p,D,⟨ap c.base.size Q,⟨Q,R.inside⟩,C,R⟩,d⟩) λp q0 q1=> ?_)
   refine T.one 8 (TO.J (z:=10) λbc=> ?_);refine TE.rv λW c=>⟨⟨_,rfl,?_⟩,?_⟩
   .rw[A.o];obtain⟨h1,_,C,d⟩:=c.en _ (ah (i:=5) rfl);exact .inr ⟨p,C,rfl,⟨h1,d.inside⟩,d⟩
   .rw[A.o,<-q.o];exact c.uT al
  |some ab=>
   obtain⟨a,b⟩:=ab;have A:=aa (Ms s m own a b u F G K.o J)
   refine T.one 4 (TO.cf (vf:=λx=> .tuple #[.agg (Yo x a b),.nilIface]) (p:=λ_ _ _ _=>True) (λ_ _ _ _ _ _ _ _=>trivial) (λW c=>((V W).out ((HM W).out c.base) _ _ _ (c.en _ (ah (i:=2) rfl)) (cx.hp c).env).mono λr M ⟨h1,d⟩=>by
    rw[J]at h1;obtain⟨x,D⟩:=h1;exact⟨x,D,trivial,d⟩) λy q0 q1=> ?_)
   refine T.one 8 (TO.J (z:=10) λbc=> ?_);refine T.put 0 (eY gh vw re .nilIface {s with on:={s.on with xL:=f,eN:=true,skip:=a}}) ?_;refine T.one 2 (TO.qk (v:= .string (strOfNums t)) (λW c=>by rw[n.o];exact BA (s:={s with on:={s.on with xL:=f,eN:=true,skip:=a}}) ⟨#[112,111,105,110,116]⟩ 32 {Y with} aC an an an (cx.hp c).env.words (cx.hp c).env.first (eF c)) ?_);refine T.one 3 (TO.RF λb4 c4=> ?_);refine T.lt 5 ?_;refine T.qm 5 0 2 (.agg #[.string f,.string s.on.xM]) ?_;refine T.one 10 (TO.XP (v:= .agg (tD (inX f s.on.xM))) 0 8 (qs:=GF (inX f s.on.xM)) (hv:=by kernel_rfl) (hq:=by kernel_rfl) (hl:=by kernel_rfl) (h1:=by kernel_rfl) ?_);refine TC.mz 1 ?_;refine TC.rg [24,25] ?_;refine T.one 15 (TO.qk (v:= .string s.eB.peer) (λW c=>(Sc E gh s.eB W (c.base.whole O (ek aF))).mono λr M ⟨h1,d⟩=>⟨h1,d▸aw _ _⟩) ?_);refine TC.rg [29,30] ?_;refine T.one 10 (TO.qk (v:= .agg (ai .u8 PB)) (λW c=>by rw[o.o];exact yK t I (cm H) W) ?_);refine TE.rv λW c=>⟨⟨_,rfl,by rw[A.o];rfl⟩,?_⟩;rw[A.o,<-q.o,<-n.o,<-o.o];exact c.uT al
 .refine T.lk 1 4 5 (.agg #[.int .i64 20,sl x.1,sl x.2.1,sl x.2.2.1,sl x.2.2.2]) ?_;refine T.lk 3 4 5 (.agg #[.int .i64 20,sl Z,sl xs,sl xn,sl xb]) ?_;have V:=λW=>aa λ(c:mV (· ≠g) W (sl Z) (sl xs) (sl xn) (sl xb) m) x l0 l1 (hL:j6 own x l0 l1 W) (en:Env W E)=>LU E own m KO.o KM.o W hL c hb.o en;simp only[e.o,l.o,dP]at V;cases J:io own m with
  |none=>
   have A:=aa (Cp s m own u F G K.o J)
   refine T.one 4 (TO.cf (vf:=λ(p:Nat)=> .tuple #[.agg (Yo (λ_=>⟨#[]⟩) false false),.iface 82 (.pointer (some ⟨p,0,none⟩))]) (p:=λp lo P W=>w.heap.size<=p/\(lo<=p/\p<P)/\ ∃C,Whole W p 86 #[.string C,bM (E 12)]) (λp lo P W M h hb _=>⟨h.1,h.2.1,h.2.2.imp λ_ d=>(hb p h.2.1).trans d⟩) (λW c=>((V W).out ((HM W).out c.base) _ _ _ (c.en _ (ah (i:=2) rfl)) (cx.hp c).env).mono λr M ⟨h1,d⟩=>by
    rw[J]at h1;obtain⟨p,C,D,Q,R⟩:=h1;exact⟨p,D,⟨ap c.base.size Q,⟨Q,R.inside⟩,C,R⟩,d⟩) λp q0 q1=> ?_)
   refine T.one 8 (TO.J (z:=10) λbc=> ?_);refine TE.rv λW c=>⟨⟨_,rfl,?_⟩,?_⟩
   .rw[A.o];obtain⟨h1,_,C,d⟩:=c.en _ (ah (i:=5) rfl);exact .inr ⟨p,C,rfl,⟨h1,d.inside⟩,d⟩
   .rw[A.o,<-q.o];exact c.uT al
  |some ab=>
   obtain⟨a,b⟩:=ab;have A:=aa (Mr s m own a b u F G K.o J)
   refine T.one 4 (TO.cf (vf:=λx=> .tuple #[.agg (Yo x a b),.nilIface]) (p:=λ_ _ _ _=>True) (λ_ _ _ _ _ _ _ _=>trivial) (λW c=>((V W).out ((HM W).out c.base) _ _ _ (c.en _ (ah (i:=2) rfl)) (cx.hp c).env).mono λr M ⟨h1,d⟩=>by
    rw[J]at h1;obtain⟨x,D⟩:=h1;exact⟨x,D,trivial,d⟩) λy q0 q1=> ?_)
   refine T.one 8 (TO.J (z:=10) λbc=> ?_);refine T.put 0 (eY gh vw re .nilIface {s with on:={s.on with xM:=f,eN:=true,skip:=b}}) ?_;refine T.one 2 (TO.qk (v:= .string (strOfNums t)) (λW c=>by rw[n.o];exact BA (s:={s with on:={s.on with xM:=f,eN:=true,skip:=b}}) ⟨#[112,111,105,110,116]⟩ 32 {Y with} aC an an an (cx.hp c).env.words (cx.hp c).env.first (eF c)) ?_);refine T.one 3 (TO.RF λb4 c4=> ?_);refine T.lt 5 ?_;refine T.qm 5 0 2 (.agg #[.string s.on.xL,.string f]) ?_;refine T.one 10 (TO.XP (v:= .agg (tD (inX s.on.xL f))) 0 8 (qs:=GF (inX s.on.xL f)) (hv:=by kernel_rfl) (hq:=by kernel_rfl) (hl:=by kernel_rfl) (h1:=by kernel_rfl) ?_);refine TC.mz 1 ?_;refine TC.rg [24,25] ?_;refine T.one 15 (TO.qk (v:= .string s.eB.peer) (λW c=>(Sc E gh s.eB W (c.base.whole O (ek aF))).mono λr M ⟨h1,d⟩=>⟨h1,d▸aw _ _⟩) ?_);refine TC.rg [29,30] ?_;refine T.one 10 (TO.qk (v:= .agg (ai .u8 PB)) (λW c=>by rw[o.o];exact yK t I (cm H) W) ?_);obtain⟨S,hS⟩:∃S,Hid (S={s with on:={s.on with xM:=f,eN:=true,skip:=b,draw:=t,asked:=true,l0:=s.line,l1:=s.eB.peer,i0:=s.on.xL,i1:=f,hb:=⟨#[]⟩,p0:=PB,p1:=av,sec:=av}}):=⟨_,aa rfl⟩;have aG:bC S:=by rw[hS.o];exact{Y with iv:=⟨I,cm H⟩,nv:=by rw[o.o];exact Uc _,mh:=dn.av,iH:=dn.av}
   have X:Hid (oO S):=aa (by rw[hS.o];exact⟨hr.wn,hr.out,hr.since⟩);have aK:=aa (Sj aE);refine T.one 7 (TO.J (z:=32) λbp=> ?_);refine T.Xv 2 1 PB ?_;refine T.one 3 (TO.news (z:=1) λbs=> ?_);refine T.put 0 (eY gh vw re .nilIface S) (he:=by rw[hS.o];kernel_rfl) ?_;refine T.one 5 (TO.BZ (show bC (l6 S (Zz PB))from aG.packed _ S.waits) (λW c=>D8 (Zz PB) (.slice none 0 0) (.slice (some ⟨bs,0,none⟩) 1 1) (.slice none 0 0) (.slice none 0 0) (ZA aE) (by rw[aK.o];decide) (by rw[aK.o];decide) aG X.o.room.wn X.o.room.out X.o.room.since (cx.hp c).env.rows (cx.hp c).env.pX (cx.hp c).env.order (Mz (L:= [strOfNums PB]) (Rf (c.lay (ah (i:=2) rfl))) rfl) (eF c)) ?_);refine TE.rv λW c=>⟨⟨_,rfl,by rw[A.o];rfl⟩,?_⟩;rw[show jj s m=(l6 S (Zz PB),none) by rw[A.o,hS.o,q.o,o.o,n.o];rfl];exact c.uT rfl
end Go.Proofs.P
