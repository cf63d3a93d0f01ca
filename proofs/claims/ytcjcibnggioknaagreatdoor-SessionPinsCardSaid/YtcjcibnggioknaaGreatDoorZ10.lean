/- Lemmas on which SessionPins rests. -/
import Derived.Test.YtcjcibnggioknaaGreatDoorZ08
import Derived.Test.YtcjcibnggioknaaGreatDoorZ09
set_option maxRecDepth 100000
set_option maxHeartbeats 40000000
set_option linter.unusedVariables false
open Go.RowKit Go.Spk
open Go.Proofs.Tryz
namespace Go.Spk
def rB(a:List Int)(i:Nat):Bool:=decide (ep (ix a (i/8)).toNat (i %8)=1)
def jv(b x:List Int):Nat->(List Int×List Int)×(List Int×List Int)×Bool
 |0=>(([((1:Nat):Int),0,0,0,0],[0,0,0,0,0]),(x,[((1:Nat):Int),0,0,0,0]),false)
 |n+1=>
  let s:=jv b x n
  let a:=rB b (254 -n) !=s.2.2
  let r:=tb x (vm a s.1.1 s.2.1.1) (vm a s.1.2 s.2.1.2) (vm a s.2.1.1 s.1.1) (vm a s.2.1.2 s.1.2)
  (r.1,r.2,rB b (254 -n))
theorem yi{ks x}{n q}{was bit sw}(hq:254 -n=q)(a:(jv ks x n).2.2=was)(b:rB ks q=bit)(c:(bit !=was)=sw):
 jv ks x (n+1)=((tb x (vm sw (jv ks x n).1.1 (jv ks x n).2.1.1) (vm sw (jv ks x n).1.2 (jv ks x n).2.1.2) (vm sw (jv ks x n).2.1.1 (jv ks x n).1.1) (vm sw (jv ks x n).2.1.2 (jv ks x n).1.2)).1,
  (tb x (vm sw (jv ks x n).1.1 (jv ks x n).2.1.1) (vm sw (jv ks x n).1.2 (jv ks x n).2.1.2) (vm sw (jv ks x n).2.1.1 (jv ks x n).1.1) (vm sw (jv ks x n).2.1.2 (jv ks x n).1.2)).2,bit):=by
 subst hq a b c
 rfl
theorem Ec(xs:aR):(strOfNums xs).size=xs.length:=by
 show(strOfNums xs).data.size=_;rw[<-r5,strOfNums_data,aM]
def SP(c:Bool)(a b:Nat):Nat:=if c then b else a
def IP(x d f g h:Nat):(Nat×Nat)×(Nat×Nat):=
 let a:=(d+f) %pF
 let b:=(d+(pF -f)) %pF
 let c:=a*a %pF
 let i:=b*b %pF
 let e:=(c+(pF -i)) %pF
 let j:=(g+(pF -h)) %pF*a %pF
 let k:=(g+h) %pF*b %pF
 let u:=(j+k) %pF
 let v:=(j+(pF -k)) %pF
 ((c*i %pF,e*((c+121665*e %pF) %pF) %pF),(u*u %pF,x*(v*v %pF) %pF))
def pE(b:List Int)(x:Nat):Nat->(Nat×Nat)×(Nat×Nat)×Bool
 |0=>((1,0),(x,1),false)
 |n+1=>
  let s:=pE b x n
  let a:=rB b (254 -n) !=s.2.2
  let r:=IP x (SP a s.1.1 s.2.1.1) (SP a s.1.2 s.2.1.2) (SP a s.2.1.1 s.1.1) (SP a s.2.1.2 s.1.2)
  (r.1,r.2,rB b (254 -n))
theorem rm(c:Bool){a b}{x y}(d:Fe a x)(e:Fe b y):Fe (vm c a b) (SP c x y):=by cases c<;>assumption
theorem SO{x ax az bx bz}{x0 x1 x2 x3 x4}(l:Fe x x0)(h1:Fe ax x1)(f:Fe az x2)(g:Fe bx x3)(h:Fe bz x4):
 (Fe (tb x ax az bx bz).1.1 (IP x0 x1 x2 x3 x4).1.1/\Fe (tb x ax az bx bz).1.2 (IP x0 x1 x2 x3 x4).1.2)/\(Fe (tb x ax az bx bz).2.1 (IP x0 x1 x2 x3 x4).2.1/\Fe (tb x ax az bx bz).2.2 (IP x0 x1 x2 x3 x4).2.2):=by
 have a:=tu h1 f;have b:=pq h1 f;have c:=dy a a;have i:=dy b b;have e:=pq c i;have j:=dy (pq g h) a;have k:=dy (tu g h) b;have u:=tu j k;have v:=pq j k;have d:Fe [((121665:Nat):Int),0,0,0,0] 121665:=va af af af af af af;exact⟨⟨dy c i,dy e (tu c (dy d e))⟩,dy u u,dy l (dy v v)⟩
theorem YU{x}{x0}(f:aR)(g:Fe x x0)(n:Nat):
 Fe (jv f x n).1.1 (pE f x0 n).1.1/\Fe (jv f x n).1.2 (pE f x0 n).1.2/\Fe (jv f x n).2.1.1 (pE f x0 n).2.1.1/\Fe (jv f x n).2.1.2 (pE f x0 n).2.1.2/\(jv f x n).2.2=(pE f x0 n).2.2:=by
 have h:Fe [((1:Nat):Int),0,0,0,0] 1:=va af af af af af af;have i:Fe [0,0,0,0,0] 0:=va af af af af af af
 induction n with
 |zero=>exact⟨h,i,g,h,rfl⟩
 |succ n j=>
  obtain⟨a,b,c,d,e⟩:=j;simp only[jv,pE,e];obtain⟨⟨k1,k⟩,l,m⟩:=SO g (rm (rB f (254 -n) !=(pE f x0 n).2.2) a c) (rm _ b d) (rm _ c a) (rm _ d b);exact⟨k1,k,l,m,trivial⟩
def jJ(a:List Int):List Int:=(a.set 0 (ix a 0/8*8)).set 31 (ix a 31 %64+64)
def di(a qs:List Int):Nat:=
 SP (pE (jJ a) (BW qs %pF) 255).2.2 (pE (jJ a) (BW qs %pF) 255).1.1 (pE (jJ a) (BW qs %pF) 255).2.1.1*uN (SP (pE (jJ a) (BW qs %pF) 255).2.2 (pE (jJ a) (BW qs %pF) 255).1.2 (pE (jJ a) (BW qs %pF) 255).2.1.2) %pF
end Go.Spk
namespace Go.Proofs.P
attribute [local go_sem ↓] li lm Tw Tx iw iy Go.wp_at_zero Go.wp_at_succ
attribute [local go_sem] cr cD
theorem WO(b:Int)(a:0<=b)(h1:b<=255):bits BinOp.andNot IntKind.u8 b 7=b/8*8:=by
 have:∀n:Nat,n<256->bits BinOp.andNot IntKind.u8 (n:Int) 7=(n:Int)/8*8:=by decide+kernel
 obtain⟨n,rfl⟩:=au a;exact this n af
theorem ZS(b:Int)(a:0<=b)(h1:b<=255):bits BinOp.and IntKind.u8 b 63=b %64/\bits BinOp.or IntKind.u8 (b %64) 64=b %64+64:=by
 have:∀n:Nat,n<256->bits BinOp.and IntKind.u8 (n:Int) 63=(n:Int) %64/\bits BinOp.or IntKind.u8 ((n:Int) %64) 64=(n:Int) %64+64:=by decide+kernel
 obtain⟨n,rfl⟩:=au a;exact this n af
theorem yL(k qs:aR)(hk:k.length=32)(hq:qs.length=32)(bk:jr k)(bq:jr qs)(w:ay):
 Calls prog 184 #[.agg (ai .u8 k),.agg (ai .u8 qs)] w λe w'=>e= .returned (.tuple #[.agg (ai .u8 (eE (di k qs))),.bool (!decide (di k qs=0))])/\Below w.heap.size w w':=by
 have HK:=aa hk;have HQ:=aa hq;have BK:=aa bk;have BQ:=aa bq;clear hk hq bk bq
 go_enter func184,ntmps184
 go_upto_region 1 with(fail)
 refine aU (λW=>Below w.heap.size w W/\Whole W w.heap.size 22 (ai .u8 k)/\Whole W (w.heap.size+1) 22 (ai .u8 qs)/\Whole W (w.heap.size+2) 22 (ai .u8 (List.replicate 32 0))) ⟨by go_grown,((Whole.new rfl rfl).alloc _).alloc _,(Whole.new bj rfl).alloc _,Whole.new bj rfl⟩ ?_;intro W0 ⟨bg,F,bh,G⟩;have bl:=aa bg;have b1:=aa bh;have b2:=aa G;have U0:=eU.start F;have c0:=F.int 0 (by rw[HK.o];decide);have b3:=F.int 31 (by rw[HK.o];decide);have f0:=F.free 0;have b4:=F.free 31;have b0:=BK.o 0;have a0:=BK.o 31;have n7:=WO _ b0.1 b0.2;obtain⟨b5,b6⟩:=ZS _ a0.1 a0.2;have H:=aa (show eU W0 _ w.heap.size 22 .u8 (jJ k)from(U0.set 0 (ix k 0/8*8)).set 31 (ix k 31 %64+64));clear bg F bh G U0 b0 a0;generalize ix k 0=k0 at*;generalize ix k 31=cF at*
 go_upto_region 3 with(fail)
 clear c0 b3 f0 b4 n7 b5 b6;generalize World.setCell _ _ _=W2 at H⊢;have b7:=aa (H.o.other b1.o af);have bm:=aa (H.o.other b2.o af);have bn:=aa (H.o.below bl.o (ak _) bl.o.size);have bo:=aa H.o.et;have b8:=aa (by unfold jJ;rw[dx,dx,HK.o]:(jJ k).length=32);obtain⟨bp,G⟩:=aP (di k qs);have bs:=aa (by intro D hD;subst hD;rw[G];unfold di;rfl:∀D,D=255->bp=SP (pE (jJ k) (BW qs %pF) D).2.2 (pE (jJ k) (BW qs %pF) D).1.1 (pE (jJ k) (BW qs %pF) D).2.1.1*uN (SP (pE (jJ k) (BW qs %pF) D).2.2 (pE (jJ k) (BW qs %pF) D).1.2 (pE (jJ k) (BW qs %pF) D).2.1.2) %pF);have b9:=aa G;clear G
 have bt:=aa (show∀i,i<255->0<=ix (jJ k) (i/8)/\ix (jJ k) (i/8)<=255 from λi hi=>by
  unfold jJ;have h0:=BK.o 0;have cG:=BK.o 31;have ca:=BK.o (i/8);rw[lW _ _ _ _ (by rw[dx,HK.o];decide),lW _ _ _ _ (by rw[HK.o];decide)]
  split
  .omega
  .split
   .omega
   .exact ca)
 generalize jJ k=d at*;clear H
 have bw:∀q,q<32->W2.cell? ⟨w.heap.size+1,0+q,none⟩=some (.int .u8 (qs.getD q 0)):=λq hq=>by
  rw[aW,b7.o.at_,iP .u8 _ q (by rw[HQ.o];exact hq)];rfl
 have bA:=bv (P:=prog) W2 99 5 underlying99 underlying5 (w.heap.size+1) 0 32 32 qs HQ.o bw 9 underlying9;have bB:=aa (λW=>Dq (strOfNums qs) (by rw[Ec,HQ.o];decide) W);rw[cJ (cY BQ.o)]at bB;have aC:=aa (RI qs);generalize BW qs=oq at*
 go_wp2_with fail
 go_upto_region 4 with((refine(bB.o _).mono ?_;rintro e W3 ⟨rfl,hb⟩;have bC:=aa hb;have a6:=Whole.new (w:=W3) (g:=W3.heap.size) (t:=50) (cs:= #[bO,bO,bO,bO,bO]) rfl rfl;have l1:=(At.j a6).R (m:=5) rfl;have ro:=bY .u64 (fB oq) 5 rfl;have HG:=aa a6;clear hb a6))
 clear l1 ro bw bA;have HX:=aa (show Fe (fB oq) (oq %pF)from DH _ aC.o);generalize fB oq=x at*;generalize oq %pF=x0 at*;have hb:=bC.o;have hg:=aG W3.heap.size (ai .u64 x).toList 0 (W3.alloc (.cells #[bO,bO,bO,bO,bO] 50));have v:=bn.o.trans (hb.mono bn.o.size);have ha:=v.alloc v.size (.cells #[bO,bO,bO,bO,bO] 50);have aj:=bo.o.below hb bo.o.inside;have ao:=bm.o.below hb bm.o.inside;have LS:=aa aj.inside;have LR:=aa ao.inside;refine aU (λW=>Below w.heap.size w W/\Whole W w.heap.size 22 (ai .u8 d)/\Whole W (w.heap.size+2) 22 (ai .u8 (List.replicate 32 0))/\Whole W W3.heap.size 50 (ai .u64 x)) ⟨ha.grown hg ha.size (λq hq=>by injection hq with hq;have:=v.size;omega),(aj.alloc _).only hg (bE (bD aj.inside)),(ao.alloc _).only hg (bE (bD ao.inside)),HG.o.fill (by rw[ag,HX.o.len];rfl)⟩ ?_;intro W5 ⟨kB,kS,kR,kX⟩;have bF:=aa kB;have Hs:=aa kS;have Hr:=aa kR;have Hx:=aa kX;clear kB kS kR kX hg v ha aj ao hb;generalize cb:W3.heap.size=gx at*;clear cb bC HG;obtain⟨c1,R⟩:=aP ([((1:Nat):Int),0,0,0,0]);have F1:Hid (Fe c1 (qz c1)):=aa (by rw[R];exact UJ (fD (n:=1) an));have E1:=aa R;clear R;refine zF 6 (Jk W5 304 #[bO,bO,bO,bO,bO,bO,bO,bO,bO,bO] (λj=>if j=0 then ai .u64 (c1++ [0,0,0,0,0])else ai .u64 (x++c1))) (λ_=>none) al al (Jk.start _ _ _ _) ?_;refine rD (.agg (ai .u64 c1)) (λs W c=> ?_) ?_
 .refine zj (f:=24) (args:=(#[.int .u64 1])) fN c ?_;rw[E1.o];exact ew (n:=1) an W
 refine bS (λK l=> ?_);refine lG al ⟨(.agg (ai .u64 [0,0,0,0,0])),λs W c=>aD (by go_simp;rfl),?_⟩;go_simp;refine l _ ?_;clear l K;refine bS (λK l=> ?_);refine lG al ⟨(.agg (ai .u64 (c1++ [0,0,0,0,0]))),λs W c=>aD (Bt rfl rfl rfl F1.o.len nJ.len W),?_⟩;go_simp;refine l _ ?_;clear l K;refine bS (λK l=> ?_);refine IY al 50 (.tmp 6) rfl (gx) 0 rfl (ai .u64 x) _ ((At.j Hx.o)) Hx.o.inside underlying50 rfl (rF HX.o.len) ?_;go_simp;refine l _ ?_;clear l K;refine rD (.agg (ai .u64 c1)) (λs W c=> ?_) ?_
 .refine zj (f:=24) (args:=(#[.int .u64 1])) fN c ?_;rw[E1.o];exact ew (n:=1) an W
 refine bS (λK l=> ?_);refine lG al ⟨(.agg (ai .u64 (x++c1))),λs W c=>aD (Bt rfl rfl rfl HX.o.len F1.o.len W),?_⟩;go_simp;refine l _ ?_;clear l K;refine ft ?_
 refine ZO (P:=prog) (T:=304) (z:= #[bO,bO,bO,bO,bO,bO,bO,bO,bO,bO]) 6 2 [7,8] [27,30] al (λo ev W h=>by unfold execOp;simp only[h];go_simp)
  (λj hj=>by rcases(af:j=0\/j=1)with rfl|rfl<;>first|exact(an:(7:Nat)<64)|exact(an:(8:Nat)<64))
  (λj hj=>by rcases(af:j=0\/j=1)with rfl|rfl<;>first|rfl)
  (λj hj=>by rcases(af:j=0\/j=1)with rfl|rfl<;>first|exact(XE F1.o.len nJ.len)|exact(XE HX.o.len F1.o.len))
  (λj hj=>by rcases(af:j=0\/j=1)with rfl|rfl<;>first|exact(show(#[bO,bO,bO,bO,bO,bO,bO,bO,bO,bO]:Array Value).size=(ai .u64 (c1++ [0,0,0,0,0])).size from(by rw[ag];simp[F1.o.len,nJ.len]))|exact(show(#[bO,bO,bO,bO,bO,bO,bO,bO,bO,bO]:Array Value).size=(ai .u64 (x++c1)).size from(by rw[ag];simp[HX.o.len,F1.o.len])))
  (λj hj=>by rcases(af:j=0\/j=1)with rfl|rfl<;>first|exact iO _ _)
  (λp=> ?_) _ _ rfl rfl
 intro W1 c;have S:W5.heap.size<=p 0/\Whole W1 (p 0) 304 (ai .u64 (c1++ [0,0,0,0,0])):=c.2.1 0 (p 0) true rfl;have U:W5.heap.size<=p 1/\Whole W1 (p 1) 304 (ai .u64 (x++c1)):=c.2.1 1 (p 1) true rfl;have aE:p 0≠p 1:=c.2.2 0 1 _ _ _ _ an rfl rfl;have v:=c.1;clear c;simp only[fl,vS,Nat.reduceLT,if_true];generalize p 0=V at*;generalize p 1=p3 at*;go_simp;have T4:=aa (aL Hs.o.inside S.1);have T5:=aa (aL Hs.o.inside U.1);have T6:=aa (aL Hr.o.inside S.1);have T7:=aa (aL Hr.o.inside U.1);have T8:=aa (aL Hx.o.inside S.1);have T9:=aa (aL Hx.o.inside U.1);have a7:=aa aE;clear aE;have cc:=aa (Hs.o.below v Hs.o.inside);have cd:=aa (Hr.o.below v Hr.o.inside);have cf:=aa (Hx.o.below v Hx.o.inside);have cg:=aa S.2;have ch:=aa U.2;have ci:=aa (bF.o.trans (v.mono bF.o.size));clear v S U
 go_wp2_with fail
 have ck:=aa (show Whole W1 V 304 (ai .u64 ((jv d x 0).1.1++(jv d x 0).1.2)) by have h:=cg.o;rw[E1.o]at h;exact h);have cl:=aa (show Whole W1 p3 304 (ai .u64 ((jv d x 0).2.1.1++(jv d x 0).2.1.2)) by have h:=ch.o;rw[E1.o]at h;exact h);have cH:=aa (show w.heap.size+2<V/\w.heap.size+2<p3/\gx<V/\gx<p3 from⟨T6.o,T7.o,T8.o,T9.o⟩)
 go_loopw [9,10] (λb i wr=> ∃m:Nat,m<=255/\i= .int .i64 ((m:Int) -1)/\b= .bool (jv d x (255 -m)).2.2/\Below w.heap.size w wr/\Whole wr w.heap.size 22 (ai .u8 d)/\Whole wr (w.heap.size+2) 22 (ai .u8 (List.replicate 32 0))/\Whole wr gx 50 (ai .u64 x)/\
  Whole wr V 304 (ai .u64 ((jv d x (255 -m)).1.1++(jv d x (255 -m)).1.2))/\Whole wr p3 304 (ai .u64 ((jv d x (255 -m)).2.1.1++(jv d x (255 -m)).2.1.2))) (λ_ i _=>(intOf i+1).toNat)
 case atStart=>exact⟨255,af,rfl,rfl,ci.o,cc.o,cd.o,cf.o,ck.o,cl.o⟩
 case round=>
  obtain⟨m,hm,rfl,rfl,kB,kS,kR,kX,A,O⟩:=hrel;have KB:=aa kB;have bG:=aa kS;have KR:=aa kR;have KX:=aa kX;have av:=YU d HX.o (255 -m)
  by_cases bI:m=0
  .obtain⟨D,hD⟩:=aP (255 -m);rw[<-hD]at A O av⊢;have X:=bs.o D af;subst bI;obtain⟨a1,a2,a3,a4,a5⟩:=av;rw[<-a5]at X;clear a5 hD bs aC bt;generalize(jv d x D).1.1=ax at*;generalize(jv d x D).1.2=az at*;generalize(jv d x D).2.1.1=bx at*;generalize(jv d x D).2.1.2=bz at*;generalize(jv d x D).2.2=C at*;generalize(pE d x0 D).1.1=y1 at*;generalize(pE d x0 D).1.2=y2 at*;generalize(pE d x0 D).2.1.1=y3 at*;generalize(pE d x0 D).2.1.2=y4 at*;have I:=aa a1;have J:=aa a2;have L:=aa a3;have M:=aa a4;have cm:=aa X;have a8:=aa A;have a9:=aa O;clear kB kS kR kX A O a1 a2 a3 a4 X hm
   go_wp2_with fail
   refine(yM C I.o J.o L.o M.o V p3 a7.o wr a8.o a9.o).mono ?_;rintro e W9 ⟨rfl,A,_,Q,kL⟩;obtain⟨Z,hZ⟩:=aP (List.replicate 32 (0:Int));have HZ:=aa (by rw[hZ];rfl:Z.length=32);have kr:=Q _ _ _ KR.o (bD T6.o) (bD T7.o);rw[<-hZ]at kr;have Kr:=aa kr;have KB:=aa (KB.o.trans (kL w.heap.size (dp T6.o) (dp T7.o) KB.o.size));have FX:=aa (rm C I.o L.o);have FZ:=aa (rm C J.o M.o);have Ka:=aa A;clear A Q kL kr hZ;generalize vm C ax bx=fx at*;generalize vm C az bz=fz at*;generalize SP C y1 y3=sx at*;generalize SP C y2 y4=sz at*;obtain⟨y,R⟩:=aP (GX fz);have aF:Hid (Fe y (qz y)):=aa (by rw[R];exact UJ (yd FZ.o));have aK:=aa R;clear R;obtain⟨a,R⟩:=aP (mulL fx y);have r:Hid (Fe a (qz a)):=aa (by rw[R];exact UJ (dy FX.o aF.o));have aS:=aa R;clear R;have bM:=aa (by rw[cm.o,aS.o,aK.o];exact(dy FX.o (yd FZ.o)).res:qz a=bp)
   go_upto_region 14 with(fail)
   refine dQ 6 (Mk W9 50) none al al (Mk.start _ _) ?_;refine pt (.pointer (some ⟨V,0,none⟩)) ?_;refine bS (λK l=> ?_);refine yZ al 50 (.tmp 53) rfl (V) 0 rfl (ai .u64 fx) _ ((At.field (pre:= []) (ws:=fx) (post:=fz++ []) (ek Ka.o) (by rfl))) Ka.o.inside underlying50 rfl (rF FX.o.len) ?_;go_simp;refine l _ ?_;clear l K;refine pt (.pointer (some ⟨V,5,none⟩)) ?_;refine bS (λK l=> ?_);refine yZ al 50 (.tmp 55) rfl (V) 5 rfl (ai .u64 fz) _ ((At.field (pre:= []++fx) (ws:=fz) (post:= []) (ek Ka.o) (by simp[FX.o.len]))) Ka.o.inside underlying50 rfl (rF FZ.o.len) ?_;go_simp;refine l _ ?_;clear l K;refine rD (.agg (ai .u64 y)) (λs W c=> ?_) ?_
   .refine jX (f:=27) (args:=(#[.agg (ai .u64 fz)])) fN c ?_;have c:=Mk.base c;rw[aK.o];exact oH FZ.o W
   refine rD (.agg (ai .u64 a)) (λs W c=> ?_) ?_
   .refine jX (f:=26) (args:=(#[.agg (ai .u64 fx),.agg (ai .u64 y)])) fN c ?_;have c:=Mk.base c;rw[aS.o];exact jK FX.o aF.o W
   refine ft ?_;refine tQ (.tmp 58) 12 #[bO,bO,bO,bO,bO] (ai .u64 a) al rfl (λW=>by go_simp) (λp=>by kernel_rfl) rfl rfl (λp=>by rfl) (λp=>by rfl) (rF r.o.len) (by rw[ag,r.o.len];rfl) (iO _ _) (λaV=> ?_);intro bR ⟨v,hp,hw⟩;have cD:=aa (aL Ka.o.inside hp);have aX:=aa (aL Kr.o.inside hp);have cE:=aa (Ka.o.below v Ka.o.inside);have Y:=aa (Kr.o.below v Kr.o.inside);have E:=aa hw;have aY:=aa (KB.o.trans (v.mono KB.o.size));clear v hp hw
   go_wp2_with fail
   refine dQ 5 (St bR (w.heap.size+2) 0 (ai .u8 (eE (qz a))).toList) false al al (St.start _ _ _ _) ?_;refine bS (λK l=> ?_);refine dK al 50 (.tmp 12) rfl (aV) 0 rfl (ai .u64 a) _ ((At.j E.o)) E.o.inside (eq aX.o) underlying50 rfl (rF r.o.len) ?_;go_simp;refine l _ ?_;clear l K;refine rD (.agg (ai .u8 (eE (qz a)))) (λs W c=> ?_) ?_
   .refine fR (f:=35) (args:=(#[.agg (ai .u64 a)])) fN c ?_;exact wB r.o W
   refine bS (λK l=> ?_);refine dK al 50 (.tmp 12) rfl (aV) 0 rfl (ai .u64 a) _ ((At.j E.o)) E.o.inside (eq aX.o) underlying50 rfl (rF r.o.len) ?_;go_simp;refine l _ ?_;clear l K;refine rD (.bool (decide (qz a=0))) (λs W c=> ?_) ?_
   .refine fR (f:=215) (args:=(#[.agg (ai .u64 a)])) fN c ?_;exact GK r.o W
   refine qQ (.bool (!(decide (qz a=0)))) ?_;refine ft ?_;refine tT 22 (.tmp 4) (.tmp 60) (ai .u8 (eE (qz a))) rfl al rfl rfl rfl rfl (by rw[show(ai .u8 (eE (qz a))).size=(ai .u8 Z).size by rw[ag,ag,HZ.o];exact dV _ _ _ _];exact(At.j Y.o).2) Y.o.inside (by rw[ag];exact gE.trans (aA some (dV _ _ _ _).symm)) (iO _ _) ?_;refine tU (.bool (!decide (qz a=0))) al (λW=>by go_simp) ?_;refine tP ?_;intro cK c;have cn:=aa (c.all Y.o (by rw[ag,ag,HZ.o];exact(dV _ _ _ _).symm));have BB:=aa (aY.o.grown c.grown aY.o.size (λq hq=>by injection hq with hq;omega));clear c;have co:=aa (show(eE (qz a)).length=32 from dV _ _ _ _);have bU:=aa (by rw[bM.o,b9.o]:Ending.returned (.tuple #[.agg (ai .u8 (eE (qz a))),.bool (!decide (qz a=0))])=Ending.returned (.tuple #[.agg (ai .u8 (eE (di k qs))),.bool (!decide (di k qs=0))]));generalize eE (qz a)=br at*;generalize decide (qz a=0)=zz at*
   go_wp2_with fail
   refine cI (dN (p:=4) (u:=5) rfl _ _ (w.heap.size+2) 22 (ai .u8 br) (0,0) _ rfl cn.o underlying22 rfl ?_) rfl ⟨?_,?_⟩
   .rw[ag,co.o];exact gE
   .exact bU.o
   .exact BB.o
  .obtain⟨q,rfl⟩:∃q,m=q+1:=⟨m -1,af⟩;have i1:((q+1:Nat):Int) -1=q:=af;have i2:(0:Int)<=q:=af;obtain⟨n,hn⟩:=aP (255 -(q+1));rw[<-hn]at A O av⊢;have N:=aa (af:255 -q=n+1/\254 -n=q);obtain⟨a1,a2,a3,a4,_⟩:=av;have I:=aa a1;have J:=aa a2;have L:=aa a3;have M:=aa a4;have a8:=aa A;have a9:=aa O;have ba:=aa (af:q<255);clear kB kS kR kX A O a1 a2 a3 a4 hn hm bI;obtain⟨q8,bb⟩:=aP (q/8);obtain⟨r8,bW⟩:=aP (q %8);have d1:(q:Int)/8=q8:=af;have d2:(q:Int) %8=r8:=af;have e1:(q8:Int)<32:=by have:=ba.o;omega
   have e2:(r8:Int)<8:=af;have c0:=bG.o.int q8 (by rw[b8.o];omega);have aB:=bt.o q ba.o;rw[<-bb]at aB;obtain⟨B,v⟩:=au aB.1;rw[v]at c0 aB;have hb:=zH B r8 af;have bX:=aa (by unfold rB;rw[<-bb,<-bW,v,cW]:rB d q=decide (ep B r8=1));have cp:=wj B r8;clear bb bW aB v
   have ab:(rB d q=true/\ep B r8=1)\/(rB d q=false/\ep B r8=0):=by
    rw[bX.o]
    by_cases h:ep B r8=1
    .exact .inl ⟨by simpa using h,h⟩
    .exact .inr ⟨by simpa using h,af⟩
   have cq:=aa ab;clear ab cp bX;cases aZ:(jv d x n).2.2
   all_goals
    have ad:=aa aZ;clear aZ;rcases cq.o with⟨bc,bd⟩|⟨bc,bd⟩
    all_goals
     have be:=aa bc;rw[bd]at hb;clear bc bd
     go_wp2_with fail
     refine(yM _ I.o J.o L.o M.o V p3 a7.o wr a8.o a9.o).mono ?_;rintro e W6 ⟨rfl,A,O,Q,kL⟩;have cr:=aa (Q _ _ _ bG.o (bD T4.o) (bD T5.o));have ct:=aa (Q _ _ _ KR.o (bD T6.o) (bD T7.o));have kx:=Q _ _ _ KX.o (bD T8.o) (bD T9.o);have bZ:=aa (KB.o.trans (kL w.heap.size (fI T4.o) (fI T5.o) KB.o.size));have cu:=aa A;have cv:=aa O;have cw:=aa kx;have l1:=(At.j kx).R (m:=5) (by rw[ag,HX.o.len]);have r1:=(At.j kx).row (m:=5) (by rw[ag,HX.o.len]);clear A O Q kL kx
     go_wp2_with fail
     refine(Gg HX.o (rm _ I.o L.o) (rm _ J.o M.o) (rm _ L.o I.o) (rm _ M.o J.o) V p3 a7.o W6 cu.o cv.o).mono ?_;rintro e W7 ⟨rfl,A,O,Q,kL,kZ⟩;have cx:=aa (Q _ _ _ cr.o (bD T4.o) (bD T5.o));have cy:=aa (Q _ _ _ ct.o (bD T6.o) (bD T7.o));have cz:=aa (Q _ _ _ cw.o (bD T8.o) (bD T9.o));have cA:=aa (bZ.o.trans (kL w.heap.size (fI T4.o) (fI T5.o) bZ.o.size));have cB:=aa A;have cC:=aa O;clear A O Q kL kZ l1 r1
     go_wp2_with fail
     go_roundw
     case rel=>exact⟨q,by have:=ba.o;omega,by go_num,by rw[N.o.1,yi N.o.2 ad.o be.o rfl],cA.o,cx.o,cy.o,cz.o,by rw[N.o.1,yi N.o.2 ad.o be.o rfl];exact cB.o,by rw[N.o.1,yi N.o.2 ad.o be.o rfl];exact cC.o⟩
     case measure=>simp[intOf]
end Go.Proofs.P
namespace Go.Spk
abbrev P4:=Nat×Nat×Nat×Nat
def MU(u v p:Nat):Nat×Bool:=
 let r:=u*(v*v %pF*v %pF) %pF*p %pF
 let a:=r*r %pF*v %pF
 if a=u then(wz r,true)else if a=(0+(pF -u)) %pF then(wz (r*m1F %pF),true)else(0,false)
def Su(u v:Nat):Nat×Bool:=MU u v (K8 (u*((v*v %pF*v %pF)*(v*v %pF*v %pF) %pF*v %pF) %pF) (256 -24) (255 -3))
def XU:P4:=(0,1,1,0)
def dE:Nat:=(0+(pF -121665)) %pF*uN 121666 %pF
def ZQ:Nat:=(dE+dE) %pF
def tG(x y:Nat):P4:=(x,y,1,x*y %pF)
def ur(y:Nat):Nat×Bool:=Su ((y*y %pF+(pF -1)) %pF) ((dE*(y*y %pF) %pF+1) %pF)
def yE:Nat:=4*uN 5 %pF
def tx:P4:=tG (ur yE).1 yE
def No:P4->P4->P4
 |(c,d,i,m),(j,k,l,n)=>
  let a:=(d+(pF -c)) %pF*((k+(pF -j)) %pF) %pF
  let b:=(d+c) %pF*((k+j) %pF) %pF
  let t:=m*ZQ %pF*n %pF
  let z:=(i*l %pF+i*l %pF) %pF
  let e:=(b+(pF -a)) %pF
  let f:=(z+(pF -t)) %pF
  let g:=(z+t) %pF
  let h:=(b+a) %pF
  (e*f %pF,g*h %pF,f*g %pF,e*h %pF)
def uP(a:List Int)(p:P4):Nat->P4
 |0=>XU
 |k+1=>let q:=No (uP a p k) (uP a p k);if rB a (255 -k)then No q p else q
def kp:P4->List Int
 |(x,y,z,_)=>let o:=eE (y*uN z %pF);if x*uN z %pF %2=1 then o.set 31 (ix o 31+128)else o
def Zc:P4->P4
 |(x,y,z,t)=>((0+(pF -x)) %pF,y,z,(0+(pF -t)) %pF)
def zb(s:List Int):P4×Bool:=
 let y:=BW s %pF
 let r:=ur y
 let p:=tG (if 128<=ix s 31 then(0+(pF -r.1)) %pF else r.1) y
 (p,r.2&&decide (kp p=s))
def pu(b:List Int):List Int×List Int:=
 let s:=mj true b
 let a:=(s.take 32).set 0 (ix s 0 -ix s 0 %8)
 (a.set 31 (ix s 31 %64+64),s.drop 32)
def lX(a:List Int):List Int:=kp (uP (pu a).1 tx 256)
def xd(l:List Int):List Int:=oT 32 (q7 (mj true l) %lS)
def qX(a m:List Int):List Int:=
 let r:=xd ((pu a).2++m)
 let b:=kp (uP r tx 256)
 b++oT 32 ((q7 (xd (b++lX a++m))*q7 (pu a).1+q7 r) %lS)
def je(key m sig:List Int):Bool:=
 let a:=zb key
 let s:=sig.drop 32
 a.2&&decide (q7 s<lS)&&decide (kp (No (uP s tx 256) (uP (xd (sig.take 32++key++m)) (Zc a.1) 256))=sig.take 32)
abbrev PL:=List Int×List Int×List Int×List Int
structure uV(p:PL)(n:P4):Prop where
 x:Fe p.1 n.1
 y:Fe p.2.1 n.2.1
 z:Fe p.2.2.1 n.2.2.1
 t:Fe p.2.2.2 n.2.2.2
def dY(p:PL):List Int:=p.1++p.2.1++p.2.2.1++p.2.2.2
theorem cK{p}{n}(h:uV p n):(dY p).length=20:=by simp[dY,h.x.len,h.y.len,h.z.len,h.t.len]
def fA(a b:List Int):List Int:=bU (o8 a b)
def fS(a b:List Int):List Int:=bU (mY a b)
theorem yR{a b}{x y}(c:Fe a x)(d:Fe b y):Fe (fA a b) ((x+y) %pF):=tu c d
theorem AH{a b}{x y}(c:Fe a x)(d:Fe b y):Fe (fS a b) ((x+(pF -y)) %pF):=pq c d
theorem fD{n:Nat}(h:n<2251799813685248):Fe [(n:Int),0,0,0,0] n:=by
 have a:Fe (fB n) n:=Ht (by unfold pF;omega)
 have b:fB n= [(n:Int),0,0,0,0]:=by
  unfold fB;rw[ig h,oa h]
  rfl
 rwa[b]at a
def uo:PL:=([0,0,0,0,0],[1,0,0,0,0],[1,0,0,0,0],[0,0,0,0,0])
theorem BR:uV uo XU:=⟨fD (n:=0) an,fD (n:=1) an,fD (n:=1) an,fD (n:=0) an⟩
theorem tV{a}{x}(b:Fe a x):Fe (uQ a) ((0+(pF -x)) %pF):=pq (fD (n:=0) an) b
theorem Qz{a}{x}(b:Fe a x):Fe (Mi a) (wz x):=by
 unfold Mi wz;rw[b.res]
 by_cases h:x %2=1
 .simp only[h,decide_true,if_true];exact tV b
 .simp only[h,decide_false,if_false];simpa using b
def IB(u v p:List Int):List Int×Bool:=
 let r:=mulL (mulL u (mulL (mulL v v) v)) p
 let a:=mulL (mulL r r) v
 if qz a=qz u then(Mi r,true)else if qz a=qz (uQ u)then(Mi (mulL r TB),true)else([0,0,0,0,0],false)
theorem Ss(u v:aR):nz u v=IB u v (rP (mulL u (mulL (mulL (mulL (mulL v v) v) (mulL (mulL v v) v)) v)) (256 -24) (255 -3)):=by
 unfold nz IB;dsimp only
theorem Sv{u v p}{x y q}(d:Fe u x)(hv:Fe v y)(h:Fe p q):Fe (IB u v p).1 (MU x y q).1/\(IB u v p).2=(MU x y q).2:=by
 have a:=dy (dy d (dy (dy hv hv) hv)) h;have e:=Rq;have i:Fe [0,0,0,0,0] 0:=fD (n:=0) an;have j:=tV d;unfold IB MU;generalize TB=M at*;generalize m1F=m at*;dsimp only;generalize mulL (mulL u (mulL (mulL v v) v)) p=R at*;generalize x*(y*y %pF*y %pF) %pF*q %pF=r at*;have k:=dy (dy a a) hv;have l:=dy a e;have o:=Qz a;have f:=Qz l;rw[k.res,d.res,j.res];generalize r*r %pF*y %pF=g at*;generalize(0+(pF -x)) %pF=s at*;generalize Mi R=t at*;generalize wz r=w at*;generalize Mi (mulL R M)=z at*;generalize wz (r*m %pF)=A at*
 by_cases b:g=x
 .rw[if_pos b,if_pos b];exact⟨o,rfl⟩
 .rw[if_neg b,if_neg b]
  by_cases c:g=s
  .rw[if_pos c,if_pos c];exact⟨f,rfl⟩
  .rw[if_neg c,if_neg c];exact⟨i,rfl⟩
theorem IA{u v}{x y}(a:Fe u x)(hv:Fe v y):Fe (nz u v).1 (Su x y).1/\(nz u v).2=(Su x y).2:=by
 rw[Ss];have b:=dy (dy hv hv) hv;exact Sv a hv (wY (dy a (dy (dy b b) hv)) (256 -24) (255 -3))
def AL(x y:List Int):PL:=(x,y,[1,0,0,0,0],mulL x y)
theorem EU{a b}{x y}(c:Fe a x)(d:Fe b y):uV (AL a b) (tG x y):=⟨c,d,fD (n:=1) an,dy c d⟩
def pA(d y:List Int):List Int×Bool:=nz (fS (mulL y y) [1,0,0,0,0]) (fA (mulL d (mulL y y)) [1,0,0,0,0])
theorem CZ{d a}{y}(b:Fe d dE)(h:Fe a y):Fe (pA d a).1 (ur y).1/\(pA d a).2=(ur y).2:=
 IA (AH (dy h h) (fD (n:=1) an)) (yR (dy b (dy h h)) (fD (n:=1) an))
def tt(c:List Int)(p q:PL):PL:=
 let a:=mulL (fS p.2.1 p.1) (fS q.2.1 q.1)
 let b:=mulL (fA p.2.1 p.1) (fA q.2.1 q.1)
 let t:=mulL (mulL p.2.2.2 c) q.2.2.2
 let z:=fA (mulL p.2.2.1 q.2.2.1) (mulL p.2.2.1 q.2.2.1)
 (mulL (fS b a) (fS z t),mulL (fA z t) (fA b a),mulL (fS z t) (fA z t),mulL (fS b a) (fA b a))
theorem we{tw}(f:Fe tw ZQ){p q}{m n}(a:uV p m)(hq:uV q n):uV (tt tw p q) (No m n):=by
 obtain⟨g,h,i,j⟩:=p;obtain⟨k,l,o,r⟩:=q;obtain⟨s,u,v,mt⟩:=m;obtain⟨w,A,B,C⟩:=n;have b:=dy (AH a.y a.x) (AH hq.y hq.x);have c:=dy (yR a.y a.x) (yR hq.y hq.x);have d:=dy (dy a.t f) hq.t;have e:=yR (dy a.z hq.z) (dy a.z hq.z);exact⟨dy (AH c b) (AH e d),dy (yR e d) (yR c b),dy (AH e d) (yR e d),dy (AH c b) (yR c b)⟩
def RE(p:PL):PL:=(uQ p.1,p.2.1,p.2.2.1,uQ p.2.2.2)
theorem MA{p}{m}(a:uV p m):uV (RE p) (Zc m):=⟨tV a.x,a.y,a.z,tV a.t⟩
def wO(a b:List Int)(p:PL):Nat->PL
 |0=>uo
 |k+1=>let q:=tt a (wO a b p k) (wO a b p k);if rB b (255 -k)then tt a q p else q
theorem uD{tw}(a:Fe tw ZQ){p}{m}(d:uV p m)(b:aR)(k:Nat):uV (wO tw b p k) (uP b m k):=by
 induction k with
 |zero=>exact BR
 |succ k c=>
  have h:=we a c c;simp only[wO,uP]
  split
  .exact we a h d
  .exact h
def kf(f:Nat->Bool)(k:Nat):List Value:=(List.range 256).map λi=>Value.bool (decide (i<k)&&f i)
theorem Ax(f:Nat->Bool)(k:Nat):(kf f k).length=256:=by simp[kf]
theorem Ge(f:Nat->Bool){k}(h:k<256):(kf f k).set k (.bool (f k))=kf f (k+1):=by
 apply nU
 .simp[kf]
 .intro i a b;simp only[kf,List.getElem_set,List.getElem_map,List.getElem_range]
  by_cases e:k=i
  .subst e;simp
  .rw[aq e];congr 2;simp only[decide_eq_decide];omega
theorem JF(f:Nat->Bool){k}(h:k<256):(kf f k)[k]?=some (.bool false):=by
 unfold kf;rw[bi,List.getElem?_range h];show some (Value.bool (decide (k<k)&&f k))=_;rw[eM (pM _),Bool.false_and]
theorem SB{w:ay}{B B'}{e}{size n}{v}{xs}(h:w.ownsRow B e size v n xs)(d:B'<=B):w.ownsRow B' e size v n xs:=by
 obtain⟨f,b⟩:=h;refine⟨f,?_⟩;rcases b with b|⟨g,a,c,i,j,k⟩
 .exact .inl b
 .exact .inr ⟨g,a,c,i,ap d j,k⟩
theorem Ey(f:Nat->Bool):kf f 0=List.replicate 256 (.bool false):=by
 apply nU
 .rw[Ax,eh]
 .intro i a b;simp only[kf,List.getElem_map,List.getElem_range,List.getElem_replicate];rw[eM (Nat.not_lt_zero _),Bool.false_and]
end Go.Spk
namespace Go.Proofs.P
def aae(w:World)(B g:Nat)(f:Nat->Bool)(k:Nat):Prop:=w.ownsRow B 4 1 (.slice (some ⟨g,0,none⟩) 256 256) 256 (kf f k)
theorem IF(c:aR)(l:c.length=32)(L:jr c)(w:ay):
 Calls prog 32 #[.agg (ai .u8 c)] w λe M=> ∃g,e= .returned (.slice (some ⟨g,0,none⟩) 256 256)/\aae M w.heap.size g (rB c) 256/\Below w.heap.size w M:=by
 have V:=aa l;have X:=aa L;clear l L
 go_enter func32,ntmps32
 go_upto_region 1 with(fail)
 refine aU (λW=>Below w.heap.size w W/\Whole W w.heap.size 22 (ai .u8 c)) ⟨by go_grown,Whole.new rfl rfl⟩ ?_;intro z ⟨d,h⟩;obtain⟨i,N,O,Q,R⟩:∃i,prog.info? 4=some i/\i.zero=some (.bool false)/\i.size=1/\i.bytes=1:=⟨_,rfl,rfl,rfl,rfl⟩;obtain⟨w1,m,A,C⟩:=run_make_full (P:=prog) z z.heap.size 94 4 i (.bool false) 1 underlying94 N O Q .i64 .i64 256 (by rw[R];decide) an (ak _);rw[show((256:Nat):Int)=256 from rfl]at m;rw[show(madeCells (Value.bool false).cells (256*1)).toList=kf (rB c) 0 by rw[Ey];kernel_rfl]at A;have Y:=aa A;have n:=aa d.size;have D:=aa (h.only C bj);have E:=aa (d.grown C d.size (λq v=>by cases v));have F:=aa h.inside;clear A N O Q R d h C;generalize Z:z.heap.size=G at*;clear Z
 go_wp2_with fail
 go_loopw [8] (λi wr=> ∃k:Nat,k<=256/\i= .int .i64 (k:Int)/\Below w.heap.size w wr/\Whole wr w.heap.size 22 (ai .u8 c)/\wr.ownsRow G 4 1 (.slice (some ⟨G,0,none⟩) 256 256) 256 (kf (rB c) k)) (λi _=>256 -(intOf i).toNat)
 case atStart=>exact⟨0,af,rfl,E.o,D.o,Y.o⟩
 case round=>
  obtain⟨k,l,rfl,H,x,o⟩:=hrel;have I:=aa H;have KS:=aa x;have S:=aa o
  by_cases a:k<256
  .have k9:(k:Int)<256:=af;obtain⟨y,p⟩:=aP (k/8);obtain⟨r,s⟩:=aP (k %8);have d1:(k:Int)/8=y:=af;have d2:(k:Int) %8=r:=af;have e1:(y:Int)<32:=af;have e2:(r:Int)<8:=af;have c0:=x.int y (by rw[V.o];omega);have j:=X.o y;obtain⟨B,J⟩:=au j.1;rw[J]at c0 j;have hb:=zH B r af;have f:rB c k=decide (ep B r=1):=by unfold rB;rw[<-p,<-s,J,cW]
   have b:=Ge (rB c) a;rw[f]at b;have t:=aa b;have c1:=World.ownsRow.cellAt (w:=wr) o k af;rw[JF _ a]at c1;have fz:=World.ownsRow.frozenAt (w:=wr) o k;have u:=aa a;generalize ep B r=U at*;have K:=aa (by rw[Bool.eq_iff_iff];simp;omega:(((U:Nat):Int)==1)=decide (U=1));clear p s j J f b H x o l a
   go_wp2_with fail
   go_roundw
   case rel=>exact⟨k+1,by have:=u.o;omega,by go_num,I.o.grown (aY (g:=G) _ rfl _) I.o.size (λq v=>by injection v with v;have:=n.o;omega),KS.o.only (aY (g:=G) _ rfl _) (bE (bD F.o)),by rw[K.o,<-t.o];exact(World.ownsRow.stored (w:=wr) S.o k _).1⟩
   case measure=>have:=u.o;simp[intOf];omega
  .obtain rfl:k=256:=af;clear H x o l a
   go_wp2_with fail
   go_ret
   exact⟨G,rfl,SB S.o n.o,I.o⟩
section
variable {d:Tmp}{x y:Operand}{ty:TypeId}{pos:String}{after:Array Edge}{gd:Option (Nat×Bool)}{a:Go.Act}{w:World}{K:Go.Act->World->Prop}{Q:Exit->Go.Act->World->Prop}
theorem LJ(b:jQ w (a.eval x) 20):Oper.wp prog ⟨some d,.load 52 x,ty,pos,after,gd⟩ a w K Q=K (a.put (some d) (jx w (a.eval x) 20)) w:=iS underlying52 rfl al b
theorem LL(b:jQ w (a.eval x) 20)(c:mZ 20 (a.eval y)):Oper.wp prog ⟨none,.store 52 x y,ty,pos,after,gd⟩ a w K Q=K (a.put none undef) (w.setCells (lY (a.eval x)) (lZ (a.eval x)) (a.eval y).cells.toList):=lj al b c
end
theorem XG:(prog.info? 52).map (·.size)=some 20:=al
theorem ZE{o}{ev}{x y z t}{a b c d}(e:o.op= .build 52 #[(0,x),(1,y),(2,z),(3,t)])(f:ev x= .agg (ai .u64 a))(g:ev y= .agg (ai .u64 b))(hz:ev z= .agg (ai .u64 c))(i:ev t= .agg (ai .u64 d))(j:a.length=5)(k:b.length=5)(l:c.length=5)(m:d.length=5)(W:ay):
 (execOp ev o).run prog W= .ok (.value (.agg (ai .u64 (a++b++c++d)))) W:=by
 have h:(Instr.build 52 #[(0,.agg (ai .u64 a)),(1,.agg (ai .u64 b)),(2,.agg (ai .u64 c)),(3,.agg (ai .u64 d))]).run prog W= .ok (.agg (ai .u64 (a++b++c++d))) W:=by
  obtain⟨n,p,q,r,s,rfl⟩:=qa j;obtain⟨u,v,w,A,B,rfl⟩:=qa k;obtain⟨c0,c1,c2,c3,c4,rfl⟩:=qa l;obtain⟨C,D,E,F,G,rfl⟩:=qa m;show _=_;kernel_rfl
 unfold execOp;simp only[e];simp[f,g,hz,i,h]
theorem AC{cd r cx cy cz ck:aR}{p q:PL}{d0 t0:Nat}{c0 m n:P4}(hd:Fe cd d0)(ht:Fe r t0)(s:uV (cx,cy,cz,ck) c0)(c:uV p m)(hq:uV q n)(u:Nat)(w:ay)(h:Whole w u 58 (ai .u64 (cd++r++cx++cy++cz++ck))):
 Calls prog 33 #[.pointer (some ⟨u,0,none⟩),.agg (ai .u64 (dY p)),.agg (ai .u64 (dY q))] w λe w'=>e= .returned (.agg (ai .u64 (dY (tt r p q))))/\Below w.heap.size w w':=by
 obtain⟨J,K,L,M⟩:=p;obtain⟨N,O,P,Q⟩:=q;have R:=aa (show mn J from⟨_,c.x⟩);have S:=aa (show mn K from⟨_,c.y⟩);have xz:=aa (show mn L from⟨_,c.z⟩);have xt:=aa (show mn M from⟨_,c.t⟩);have U:=aa (show mn N from⟨_,hq.x⟩);have V:=aa (show mn O from⟨_,hq.y⟩);have yz:=aa (show mn P from⟨_,hq.z⟩);have yt:=aa (show mn Q from⟨_,hq.t⟩);have kt:=aa (show mn r from⟨_,ht⟩);have l1:=c.x.len;have l2:=c.y.len;have l3:=c.z.len;have l4:=c.t.len;have k1:=hq.x.len;have k2:=hq.y.len;have k3:=hq.z.len;have k4:=hq.t.len;have m1:=hd.len;have m2:=ht.len;have m3:=s.x.len;have m4:=s.y.len;have m5:=s.z.len;have m6:=s.t.len;dsimp only at l1 l2 l3 l4 k1 k2 k3 k4 m3 m4 m5 m6;have lp:(J++(K++(L++M))).length=20:=by simp[*]
 have lq:(N++(O++(P++Q))).length=20:=by simp[*]
 obtain⟨a1,d1,f1,n1⟩:=VK S R;obtain⟨a2,d2,f2,n2⟩:=VK V U;obtain⟨a,d3,X,n3⟩:=vJ f1 f2;obtain⟨b1,d4,f4,n4⟩:=TD S R;obtain⟨b2,d5,f5,n5⟩:=TD V U;obtain⟨b,d6,Y,n6⟩:=vJ f4 f5;obtain⟨t1,d7,f7,n7⟩:=vJ xt kt;obtain⟨t,d8,Z,n8⟩:=vJ f7 yt;obtain⟨z1,d9,f9,n9⟩:=vJ xz yz;obtain⟨z,A,d,ab⟩:=TD f9 f9;obtain⟨e,B,i,ad⟩:=VK Y X;obtain⟨f,C,j,aj⟩:=VK d Z;obtain⟨g,D,k,al⟩:=TD d Z;obtain⟨hh,E,o,an⟩:=TD Y X;obtain⟨r1,F,ao,av⟩:=vJ i j;obtain⟨r2,G,ax,az⟩:=vJ k o;obtain⟨r3,H,aB,aC⟩:=vJ j k;obtain⟨r4,I,aE,aF⟩:=vJ i o;have hR:Hid (dY (tt r (J,K,L,M) (N,O,P,Q))=r1++(r2++(r3++r4))):=aa (by rw[<-List.append_assoc,<-List.append_assoc,F.out,G.out,H.out,I.out,B.out,C.out,D.out,E.out,A.out,d9.out,d8.out,d7.out,d6.out,d5.out,d4.out,d3.out,d2.out,d1.out];rfl);rw[hR.o];have hs:Hp w [] [bl 0 u false (kL 58 [5,5,5,5,5,5]) [cd.map (Value.int .u64),r.map (Value.int .u64),cx.map (Value.int .u64),cy.map (Value.int .u64),cz.map (Value.int .u64),ck.map (Value.int .u64)]] w:=(Hp.nil _ _).cons ⟨by show[_,_,_,_,_,_]=_;simp[m1,m2,m3,m4,m5,m6],by show w.heap[u]?=_;rw[show w.heap[u]?=_ from h];simp[ai,bl]⟩ (λ_ e=>e▸h.inside) (λh=>by cases h) (λ_ h=>by cases h);clear hd ht s c hq h;unfold dY;refine TC.enter func33 ntmps33 _ _ hs ?_;refine T.one 0 (TO.J (z:=20) λbp=> ?_);refine T.one 1 (TO.J (z:=20) λbq=> ?_);refine T.one 2 (TO.J (z:=20) λbr=> ?_);refine TC.split 1 [5,5,5,5] [J.map (Value.int .u64),K.map (Value.int .u64),L.map (Value.int .u64),M.map (Value.int .u64)] ?_ (he:=by simp) (hl:=by simp[*]);refine TC.split 2 [5,5,5,5] [N.map (Value.int .u64),O.map (Value.int .u64),P.map (Value.int .u64),Q.map (Value.int .u64)] ?_ (he:=by simp) (hl:=by simp[*]);refine TC.rg [111000] ?_;refine T.qc 4 (v:= .agg (ai .u64 a1)) (λ_ _ W _=>FG S R d1 W) ?_;refine T.qc 9 (v:= .agg (ai .u64 a2)) (λ_ _ W _=>FG V U d2 W) ?_;refine T.qc 10 (v:= .agg (ai .u64 a)) (λ_ _ W _=>qd f1 f2 d3 W) ?_;refine T.one 11 (TO.J (z:=5) λb7=> ?_);refine TC.rg [111000] ?_;refine T.qc 4 (v:= .agg (ai .u64 b1)) (λ_ _ W _=>Cd S R d4 W) ?_;refine T.qc 9 (v:= .agg (ai .u64 b2)) (λ_ _ W _=>Cd V U d5 W) ?_;refine T.qc 10 (v:= .agg (ai .u64 b)) (λ_ _ W _=>qd f4 f5 d6 W) ?_;refine T.one 11 (TO.J (z:=5) λb8=> ?_);refine TC.rg [110000] ?_;refine T.qc 6 (v:= .agg (ai .u64 t1)) (λ_ _ W _=>qd xt kt d7 W) ?_;refine T.qc 9 (v:= .agg (ai .u64 t)) (λ_ _ W _=>qd f7 yt d8 W) ?_;refine T.one 10 (TO.J (z:=5) λb9=> ?_);refine T.one 4 (TO.qk (v:= .agg (ai .u64 z1)) (λW _=>qd xz yz d9 W) ?_);refine T.one 5 (TO.J (z:=5) λaG=> ?_);refine T.one 2 (TO.qk (v:= .agg (ai .u64 z)) (λW _=>Cd f9 f9 A W) ?_);refine TC.drop 0 ?_;refine TC.drop 0 ?_;refine TC.drop 0 ?_;refine TC.rg [112000,113000,114000,115000] ?_;refine T.qc 2 (v:= .agg (ai .u64 e)) (λ_ _ W _=>FG Y X B W) ?_;refine T.qc 5 (v:= .agg (ai .u64 f)) (λ_ _ W _=>FG d Z C W) ?_;refine T.qc 8 (v:= .agg (ai .u64 g)) (λ_ _ W _=>Cd d Z D W) ?_;refine T.qc 11 (v:= .agg (ai .u64 hh)) (λ_ _ W _=>Cd Y X E W) ?_;refine T.one 12 (TO.J (z:=5) λaK=> ?_);refine T.one 13 (TO.J (z:=5) λaP=> ?_);refine T.one 14 (TO.J (z:=5) λaS=> ?_);refine T.one 15 (TO.J (z:=5) λaU=> ?_);refine TC.drop 1 ?_;refine TC.drop 1 ?_;refine TC.drop 1 ?_;refine TC.drop 1 ?_;refine TC.rg [102000] ?_;refine T.qc 2 (v:= .agg (ai .u64 r1)) (λ_ _ W _=>qd i j F W) ?_;refine T.qc 5 (v:= .agg (ai .u64 r2)) (λ_ _ W _=>qd k o G W) ?_;refine T.qc 8 (v:= .agg (ai .u64 r3)) (λ_ _ W _=>qd j k H W) ?_;refine T.qc 11 (v:= .agg (ai .u64 r4)) (λ_ _ W _=>qd i o I W) ?_;refine T.bd 12 [[bO,bO,bO,bO,bO],[bO,bO,bO,bO,bO],[bO,bO,bO,bO,bO],[bO,bO,bO,bO,bO]] (qs:= [r1.map (Value.int .u64),r2.map (Value.int .u64),r3.map (Value.int .u64),r4.map (Value.int .u64)]) (v:= .agg (ai .u64 (r1++(r2++(r3++r4))))) ?_ (hv:=by simp[ai]);refine TE.rc ?_;exact λW hW=>⟨congrArg (λl=>Ending.returned (.agg (List.toArray l))) (List.append_nil _),hW.below⟩
end Go.Proofs.P
namespace Go.Spk
theorem EK(x y:Nat){k m}(h:k<m):gq (x+y*2^(32*m)) k=gq x k:=by
 obtain⟨d,rfl⟩:∃d,m=k+1+d:=⟨m -(k+1),af⟩;unfold gq
 have e:y*2^(32*(k+1+d))=y*2^(32*d)*4294967296*2^(32*k):=by
  rw[show 32*(k+1+d)=32*d+32+32*k by omega,ly,ly,show(2:Nat)^32=4294967296 from rfl];simp only[Nat.mul_assoc]
 rw[e,Nat.add_mul_div_right _ _ (gR _)];omega
theorem FT{N M k cy p}(h:M/2^(32*k)=N/2^(32*k)+cy):
 (M+p*2^(32*k))/2^(32*(k+1))=N/2^(32*(k+1))+(gq N k+p+cy)/4294967296/\gq (M+p*2^(32*k)) k=(gq N k+p+cy) %4294967296:=by
 have b:=gK N k;have a:(M+p*2^(32*k))/2^(32*k)=M/2^(32*k)+p:=Nat.add_mul_div_right _ _ (gR _);constructor
 .rw[wu,a,h];omega
 .unfold gq at*;rw[a,h];omega
theorem TL{N M k p v}(a:k<16)(hv:gq (M+p*2^(32*k)) k=v):
 (eH (gq M) (gq N) 16 k).set k ((v:Nat):Int)=eH (gq (M+p*2^(32*k))) (gq N) 16 (k+1):=by
 rw[<-jV a,hv];congr 1;apply jN;intro i b
 by_cases h:i<k
 .rw[aJ h,aJ h,EK _ _ h]
 .rw[aq h,aq h]
theorem Nn{d cy}{a b}(c:d<4294967296)(e:a<4294967296)(f:b<4294967296)(g:cy<4294967296):d+a*b+cy<18446744073709551616/\(d+a*b+cy)/4294967296<4294967296:=by
 have h:a*b<=4294967295*4294967295:=fT af af;omega
theorem Hv(b j:Nat):b %2^(32*(j+1))=b %2^(32*j)+gq b j*2^(32*j):=by
 unfold gq;rw[Bl,Nat.mod_mul];rw[jt (2^(32*j))]
theorem PU(n i:Nat):Cg n (i+1)=Cg (n/256) i:=by
 unfold Cg;rw[show 8*(i+1)=8+8*i by omega,ly,<-bQ]
theorem NA(m n:Nat):oT (m+1) n=((Cg n 0:Nat):Int)::oT m (n/256):=by
 apply nU
 .simp[fP]
 .intro i a b
  match i with
  |0=>simp[oT,eH]
  |i+1=>
   simp[oT,eH,PU]
theorem Hn:∀m n:Nat,n<2^(8*m)->q7 (oT m n)=n
 |0,n,h=>by have:n<1:=h;simp[oT,eH,q7];omega
 |m+1,n,h=>by
  rw[NA]
  have a:n/256<2^(8*m):=by
   rw[show 8*(m+1)=8*m+8 by omega,ly]at h;exact Nat.div_lt_of_lt_mul (by rw[jt];exact h)
  show(((Cg n 0:Nat):Int).toNat+256*q7 (oT m (n/256)))=n;rw[Hn m _ a,cW];unfold Cg;rw[vt,Nat.pow_zero,Nat.div_one];omega
theorem Al(m n:Nat):∀b∈oT m n,0<=b/\b<=255:=by
 intro b a;unfold oT eH at a;obtain⟨i,_,rfl⟩:=fZ.1 a;have:=Ye n i
 split<;>omega
theorem eU.iC{w W W'}{g}{t}{k}{ws}(h:eU w W g t k ws)(a:Below W.heap.size W W'):eU w W' g t k ws:=
 ⟨aZ h.only (bR a _),h.et.below a h.et.inside⟩
end Go.Spk
namespace Go.Proofs.P
attribute [local go_sem ↓] iw iy
attribute [local go_sem] cr cD
theorem CL(Y qs cs:aR)(F:Y.length=32)(hq:qs.length=32)(hc:cs.length=32)(bk:jr Y)(bq:jr qs)(bc:jr cs)(w:ay)(ho:jS w):
 Calls prog 189 #[.agg (ai .u8 Y),.agg (ai .u8 qs),.agg (ai .u8 cs)] w λe w'=>e= .returned (.agg (ai .u8 (oT 32 ((q7 Y*q7 qs+q7 cs) %lS))))/\Below w.heap.size w w':=by
 have HK:=aa F;have HQ:=aa hq;have HC:=aa hc;have HO:=aa ho;have be:=aa (show w.heap.size+4≠27 by have:=ho.lt;omega);have bg:=aa ho.lt;have aV:=aa (λ(i:Nat) (U:i<8) W=>xf F bk U W);have aX:=aa (λ(i:Nat) (U:i<8) W=>xf hq bq U W);have aY:=aa (λ(i:Nat) (U:i<8) W=>xf hc bc U W);obtain⟨A,hA⟩:=aP (q7 Y);obtain⟨B,hB⟩:=aP (q7 qs);obtain⟨C,hC⟩:=aP (q7 cs);have aZ:=aa (show A<2^(32*8) by rw[hA];have h:=vG Y (cY bk);rw[F]at h;exact h);have a0:=aa (show B<2^(32*8) by rw[hB];have h:=vG qs (cY bq);rw[hq]at h;exact h);have a1:=aa (show C<2^(32*8) by rw[hC];have h:=vG cs (cY bc);rw[hc]at h;exact h);rw[<-hA]at aV⊢;rw[<-hB]at aX⊢;rw[<-hC]at aY⊢;obtain⟨R,hR⟩:=aP (oT 32 ((A*B+C) %lS));rw[<-hR];have HR:=aa hR;clear F hq hc bk bq bc ho hA hB hC hR
 go_enter func189,ntmps189
 go_upto_region 2 with(fail)
 refine aU (λW=>Below w.heap.size w W/\Whole W w.heap.size 22 (ai .u8 Y)/\Whole W (w.heap.size+1) 22 (ai .u8 qs)/\Whole W (w.heap.size+2) 22 (ai .u8 cs)/\Whole W (w.heap.size+3) 22 (ai .u8 (List.replicate 32 0))/\Whole W (w.heap.size+4) 309 (ai .u64 (List.replicate 16 0)))
  ⟨by go_grown,((((Whole.new rfl rfl).alloc _).alloc _).alloc _).alloc _,(((Whole.new bj rfl).alloc _).alloc _).alloc _,((Whole.new bj rfl).alloc _).alloc _,(Whole.new bj rfl).alloc _,Whole.new bj rfl⟩ ?_
 intro W0 ⟨kB,kA,kQ,kC,kR,kT⟩;have Z:=aa kB;have bh:=aa kA;have bl:=aa kQ;have bm:=aa kC;have bn:=aa kR;have bo:=aa kT;clear kB kA kQ kC kR kT
 go_wp2_with fail
 go_loopw [17] (λi wr=> ∃k:Nat,k<=8/\i= .int .i64 (k:Int)/\eU W0 wr (w.heap.size+4) 309 .u64 (eH (gq C) (λ_=>0) 16 k)) (λi _=>8 -(intOf i).toNat)
 case atStart=>exact⟨0,af,rfl,by rw[uI];exact eU.start bo.o⟩
 case round=>
  obtain⟨k,F,rfl,l⟩:=hrel
  by_cases ab:k<8
  .have k8:(k:Int)<8:=af;have az:=l.other bm.o af;have l1:=(At.j az).R (m:=32) (by rw[ag,HC.o]);have r1:=(At.j az).row (m:=32) (by rw[ag,HC.o]);have I:=aa l;have bp:=aa (aY.o k ab wr);have o:=aa (jV (f:=gq C) (g:=λ_=>0) (m:=16) (k:=k) af);have J:=aa ab;generalize gq C k=d at*;clear l az F ab
   go_wp2_with fail
   refine bp.o.mono ?_;rintro e W1 ⟨rfl,V⟩;have D:=I.o.iC V;have c1:=D.cell k (by rw[du];omega);have f1:=D.frozen k;have G:=aa D;clear V D l1 r1
   go_wp2_with fail
   go_roundw
   case rel=>exact⟨k+1,by have:=J.o;omega,by go_num,by rw[<-o.o];exact G.o.set k _⟩
   case measure=>have:=J.o;simp[intOf];omega
  .obtain rfl:k=8:=af
   have hn:eH (gq C) (λ_=>0) 16 8=pg 16 C:=jN λi U=>by
    rw[aJ U]
    by_cases h:i<8
    .rw[aJ h]
    .obtain⟨d,rfl⟩:∃d,i=8+d:=⟨i -8,af⟩;rw[aq h];unfold gq;rw[show 32*(8+d)=32*8+32*d by omega,ly,<-bQ,oa a1.o,Nat.zero_div]
   rw[hn]at l;have I:=aa l;clear l hn F ab
   go_wp2_with fail
   go_loopw [26] (λi wr=> ∃k:Nat,k<=8/\i= .int .i64 (k:Int)/\eU W0 wr (w.heap.size+4) 309 .u64 (pg 16 (C+A %2^(32*k)*B))) (λi _=>8 -(intOf i).toNat)
   case atStart=>exact⟨0,af,rfl,by rw[show C+A %2^(32*0)*B=C by rw[vt,Nat.pow_zero,Nat.mod_one,Nat.zero_mul,vr]];exact I.o⟩
   case round=>
    obtain⟨i,U,rfl,l⟩:=hrel;obtain⟨N,hN⟩:=aP (C+A %2^(32*i)*B);rw[<-hN]at l;have HN:=aa hN;have ad:=aa l;clear l hN I
    by_cases aB:i<8
    .have i8:(i:Int)<8:=af;have HI:=aa aB;have br:=aa (aV.o i aB);have bs:=aa (Hv A i);have la:=ji A i;generalize gq A i=a at*;have LA:=aa la;clear la U
     go_wp2_with fail
     go_loopw [10,29] (λc x wr=> ∃j E:Nat,j<=8/\x= .int .i64 (j:Int)/\c= .int .u64 (E:Int)/\E<4294967296/\(N+a*(B %2^(32*j))*2^(32*i))/2^(32*(i+j))=N/2^(32*(i+j))+E/\eU W0 wr (w.heap.size+4) 309 .u64 (eH (gq (N+a*(B %2^(32*j))*2^(32*i))) (gq N) 16 (i+j))) (λ_ x _=>8 -(intOf x).toNat)
     case atStart=>
      have e0:N+a*(B %2^(32*0))*2^(32*i)=N:=by rw[vt,Nat.pow_zero,Nat.mod_one,vt,Nat.zero_mul,vr]
      refine⟨0,0,af,rfl,rfl,an,by rw[e0];exact(vr _).symm,?_⟩;rw[e0,show eH (gq N) (gq N) 16 (i+0)=pg 16 N from jN λq hq=>by simp[hq]];exact ad.o
     case round=>
      obtain⟨j,E,hj,rfl,rfl,H,X,l⟩:=hrel
      by_cases aj:j<8
      .have j8:(j:Int)<8:=af;have ij:IntKind.i64.wrap ((i:Int)+j)=(i:Int)+j:=IntWalk.i64_in _ af;have bS:(0:Int)<=(i:Int)+j:=af;have bU:(i:Int)+j<16:=af;have bW:((i:Int)+j).toNat=i+j:=af;have cd:=l.cell (i+j) (by rw[du];omega);rw[mo af,aq (pM _)]at cd;have z:=FT (p:=a*gq B j) X;have u:=Nn (ji N (i+j)) LA.o (ji B j) H
       have a2:N+a*(B %2^(32*(j+1)))*2^(32*i)=N+a*(B %2^(32*j))*2^(32*i)+a*gq B j*2^(32*(i+j)):=by
        rw[Hv,Nat.mul_add,Nat.add_mul,show 32*(i+j)=32*j+32*i by omega,ly,Nat.add_assoc,Nat.mul_assoc a (gq B j*_),Nat.mul_assoc (gq B j),Nat.mul_assoc a (gq B j)]
       have n:=TL (N:=N) (by omega:i+j<16) z.2;rw[<-a2]at z n;have bt:=aa (aX.o j aj);have t:=z.1;clear z;generalize gq B j=b at*;generalize gq N (i+j)=d at*;obtain⟨p,hp⟩:=aP (a*b);rw[<-hp]at t u n;obtain⟨y,hy⟩:=aP (d+p);rw[<-hy]at t u n;obtain⟨s,hs⟩:=aP (y+E);rw[<-hs]at t u n;have bX:IntKind.u64.wrap ((a:Int)*b)=(p:Int):=by rw[show(a:Int)*b=(p:Int) by rw[hp];simp,bH];omega
       have bZ:IntKind.u64.wrap ((d:Int)+p)=(y:Int):=by rw[bH];omega
       have a3:IntKind.u64.wrap ((y:Int)+E)=(s:Int):=by rw[bH];omega
       have bw:bits BinOp.and IntKind.u64 (s:Int) 4294967295=((s %4294967296:Nat):Int):=by
        rw[show(4294967295:Int)=((4294967295:Nat):Int)from rfl,lz _ _ af af];have:=nZ s 32;rw[show 2^32 -1=4294967295 from rfl,show 2^32=4294967296 from rfl]at this;rw[this]
       have aC:=aa t;have L:=aa u.2;have o:=aa n;have I:=aa l;have a4:=aa (l.other bh.o af);have a5:=aa (l.other bl.o af);have HJ:=aa aj;have LT:=aa l.et.inside;clear t u n l hp hy hs X H a2 hj aj
       go_upto_region 14 with(fail)
       refine iI (λW=>Below wr.heap.size wr W) al al (bA (aw _ _) 1) ?_;refine mD (.int .i64 (i:Int)) ?_;refine mD (.int .i64 (j:Int)) ?_;refine mD (.int .i64 ((i:Int)+j)) ?_;refine mD (.pointer (some ⟨w.heap.size+1+1+1+1,i+j,none⟩)) ?_;refine xO (.int .u64 (d:Int)) (λW M=>aD ?_) ?_
       .have c:W.cell? ⟨w.heap.size+1+1+1+1,i+j,none⟩=some (.int .u64 (d:Int)):=(Below.cell M (p:=⟨w.heap.size+4,i+j,none⟩) LT.o).trans cd;go_simp
       refine e9 (λK hK=> ?_);refine jo al 22 (.tmp 3) rfl (w.heap.size) 0 rfl (ai .u8 Y) _ (λW M=>(At.below (At.j a4.o) M a4.o.inside)) underlying22 rfl (by rw[ag];exact gE.trans (aA some HK.o.symm)) ?_;go_simp;refine hK _ ?_;clear hK K;refine mD (.int .i64 (i:Int)) ?_;refine xO (.int .u64 (a:Int)) (λW M=> ?_) ?_
       .refine cZ (f:=218) (args:=(#[.agg (ai .u8 Y),.int .i64 (i:Int)])) fN ?_;refine(br.o W).mono ?_;rintro e W' ⟨rfl,V⟩;exact⟨rfl,M.trans (V.mono M.size)⟩
       refine e9 (λK hK=> ?_);refine jo al 22 (.tmp 4) rfl (w.heap.size+1) 0 rfl (ai .u8 qs) _ (λW M=>(At.below (At.j a5.o) M a5.o.inside)) underlying22 rfl (by rw[ag];exact gE.trans (aA some HQ.o.symm)) ?_;go_simp;refine hK _ ?_;clear hK K;refine mD (.int .i64 (j:Int)) ?_;refine xO (.int .u64 (b:Int)) (λW M=> ?_) ?_
       .refine cZ (f:=218) (args:=(#[.agg (ai .u8 qs),.int .i64 (j:Int)])) fN ?_;refine(bt.o W).mono ?_;rintro e W' ⟨rfl,V⟩;exact⟨rfl,M.trans (V.mono M.size)⟩
       refine mD (.int .u64 (p:Int)) ?_;refine mD (.int .u64 (y:Int)) ?_;refine mD (.int .u64 (E:Int)) ?_;refine mD (.int .u64 (s:Int)) ?_;refine mD (.int .u64 (s:Int)) ?_;refine q5 ?_;intro W9 hB;have ao:=I.o.iC hB;have c9:=ao.cell (i+j) (by rw[du];omega);have f9:=ao.frozen (i+j);have bx:=aa ao;clear hB ao cd
       go_wp2_with fail
       go_roundw
       case rel=>
        refine⟨_,_,_,_,_,_,_,_,_,_,_,_,_,_,_,_,_,_,_,_,_,_,_,_,_,_,_,_,_,_,?_,rfl⟩;exact⟨j+1,s/4294967296,by have:=HJ.o;omega,by go_num,by go_num,L.o,aC.o,Ae bx.o o.o af⟩
       case measure=>have:=HJ.o;simp[intOf];omega
      .obtain rfl:j=8:=af;have a6:B %2^(32*8)=B:=ig a0.o
       have a7:N+a*(B %2^(32*8))*2^(32*i)=C+A %2^(32*(i+1))*B:=by
        rw[a6,bs.o,HN.o,Nat.add_mul,Nat.add_assoc,Nat.mul_assoc a,Nat.mul_assoc a,jt B]
       rw[a7]at X l;obtain⟨N',aE⟩:=aP (C+A %2^(32*(i+1))*B);rw[<-aE]at X l;have bz:=aa aE;have I:=aa l;have HM:=aa X;have bB:=aa H;clear aE a6 a7 X l H hj aj
       go_wp2_with fail
       go_loopw [10,13] (λc x wr=> ∃k E:Nat,k<=16/\x= .int .i64 (k:Int)/\c= .int .u64 (E:Int)/\E<4294967296/\N'/2^(32*k)=N/2^(32*k)+E/\eU W0 wr (w.heap.size+4) 309 .u64 (eH (gq N') (gq N) 16 k)) (λ_ x _=>16 -(intOf x).toNat)
       case atStart=>exact⟨i+8,E,by have:=HI.o;omega,by go_num,rfl,bB.o,HM.o,I.o⟩
       case round=>
        obtain⟨k,E,F,rfl,rfl,H,X,l⟩:=hrel
        by_cases v:k<16
        .have b0:(k:Int)<16:=af;have cd:=l.cell k (by rw[du];exact v);rw[mo v,aq (pM _)]at cd;have fd:=l.frozen k;have z:=FT (p:=0) X;simp only[Nat.zero_mul,Nat.add_zero]at z;have n:(eH (gq N') (gq N) 16 k).set k (((gq N k+E) %4294967296:Nat):Int)=eH (gq N') (gq N) 16 (k+1):=by rw[<-z.2];exact jV v
         have ld:=ji N k;have t:=z.1;clear z;generalize gq N k=d at*;obtain⟨s,hs⟩:=aP (d+E);rw[<-hs]at t n;have a3:IntKind.u64.wrap ((d:Int)+E)=(s:Int):=by rw[bH];omega
         have bw:bits BinOp.and IntKind.u64 (s:Int) 4294967295=((s %4294967296:Nat):Int):=by
          rw[show(4294967295:Int)=((4294967295:Nat):Int)from rfl,lz _ _ af af];have:=nZ s 32;rw[show 2^32 -1=4294967295 from rfl,show 2^32=4294967296 from rfl]at this;rw[this]
         have u:s/4294967296<4294967296:=af;have aC:=aa t;have L:=aa u;have o:=aa n;have aF:=aa l;have J:=aa v;have b1:(d:Int)+E=s:=af;clear t u n l hs X F v a3
         go_wp2_with fail
         go_roundw
         case rel=>exact⟨k+1,s/4294967296,by have:=J.o;omega,by go_num,by go_num,L.o,aC.o,Ae aF.o o.o af⟩
         case measure=>have:=J.o;simp[intOf];omega
        .obtain rfl:k=16:=af;rw[BE]at l;have aF:=aa l;clear l X H F v
         go_wp2_with fail
         go_roundw
         case rel=>exact⟨i+1,by have:=HI.o;omega,by go_num,by rw[<-bz.o];exact aF.o⟩
         case measure=>have:=HI.o;simp[intOf];omega
    .obtain rfl:i=8:=af;have hn:N=A*B+C:=by rw[HN.o,ig aZ.o,Nat.add_comm]
     have a8:=aa hn;clear hn U aB HN
     go_upto_region 26 with(fail)
     refine aU (λW=>eU W0 W (w.heap.size+4) 309 .u64 (pg 16 N)/\Whole W wr.heap.size 97 (ai .u8 (List.replicate 64 0))) ⟨ad.o.alloc _,Whole.new bj rfl⟩ ?_;intro W1 ⟨D,a9⟩;have bC:=aa D.et;have G:=aa D;have bE:=aa a9;have av:=aa (show w.heap.size+4<wr.heap.size from ad.o.et.inside);clear D a9;have bF:=aa (show wr.heap.size≠27 by have:=av.o;have:=bg.o;omega);generalize wr.heap.size=g at*;clear ad
     go_wp2_with fail
     go_loopw [74] (λx W=> ∃k:Nat,k<=64/\x= .int .i64 (k:Int)/\eU W1 W g 97 .u8 (eH (Cg N) (λ_=>0) 64 k)) (λx _=>64 -(intOf x).toNat)
     case atStart=>exact⟨0,af,rfl,by rw[uI];exact eU.start bE.o⟩
     case round=>
      obtain⟨k,F,rfl,l⟩:=hrel;have I:=aa l
      by_cases O:k<64
      .obtain⟨q,r,hr,rfl⟩:∃q r,r<4/\k=4*q+r:=⟨k/4,k %4,af,af⟩;have hT:=l.other bC.o (dp av.o);have ca:=hT.int q (by rw[y8];omega);rw[ME af]at ca;have d1:((4*q+r:Nat):Int)/4=q:=af;have d2:((4*q+r:Nat):Int) %4=r:=af;have e1:(q:Int)<16:=af;have cb:=l.et.int (4*q+r) (by rw[du];exact O);have fb:=l.et.free (4*q+r);have o:=aa (jV (f:=Cg N) (g:=λ_=>0) O);rw[Ez N q r hr]at o;have la:=ji N q;generalize gq N q=a at*;have aK:=aa O;have k9:((4*q+r:Nat):Int)<64:=af;obtain⟨K,hK⟩:=aP (4*q+r);rw[<-hK]at d1 d2 cb fb o aK k9 I⊢;clear l F O hK hT;rcases(af:r=0\/r=1\/r=2\/r=3)with rfl|rfl|rfl|rfl
       all_goals
        go_wp2_with fail
        go_roundw
        case rel=>
         refine⟨K+1,by have:=aK.o;omega,by go_num,?_⟩;refine Ae I.o o.o ?_;simp only[Nat.reduceMul,Nat.reducePow];omega
        case measure=>have:=aK.o;simp[intOf];omega
      .obtain rfl:k=64:=af;rw[I3]at l;have ax:=aa (show eU W1 _ g 97 .u8 (oT 64 N)from l);clear l I F O
       have ba:∀q,q<64->wr.cell? ⟨g,0+q,none⟩=some (.int .u8 ((oT 64 N).getD q 0)):=λq hq=>by
        rw[aW,ax.o.et.at_,iP .u8 _ q (by rw[fP];exact hq)];rfl
       have bR:=bv (P:=prog) wr 99 5 underlying99 underlying5 g 0 64 64 (oT 64 N) (fP _ _) ba 9 underlying9;clear ba;have bG:=aa (((HO.o.below Z.o).only G.o.only be.o).only ax.o.only bF.o);have bb:=aa (ax.o.below (G.o.below Z.o af Z.o.size) (dp av.o) (ap Z.o.size G.o.only.size));have bd:=aa (ax.o.other (G.o.other bn.o af) (dp av.o))
       have Q:N<2^(8*64):=by
        rw[a8.o];have h1:A*B<=(2^256 -1)*(2^256 -1):=fT (dp aZ.o) (dp a0.o);have h2:=a1.o;omega
       have S:=vk (strOfNums (oT 64 N)) (by rw[Ec,fP];decide) wr bG.o;rw[cJ (Al 64 N),bL (by rw[fP];decide),Hn 64 N Q,show oT 32 (N %lS)=R by rw[HR.o,a8.o]]at S;have bI:=aa S;clear S Q
       go_wp2_with fail
       refine bI.o.mono ?_;rintro e W9 ⟨rfl,V⟩;have aS:R.length=32:=by rw[HR.o];exact fP _ _
       have hr:=bd.o.below V bd.o.inside;have l2:jQ W9 (.pointer (some ⟨w.heap.size+1+1+1,0,none⟩)) 32:=(At.j hr).R (m:=32) (by rw[ag];rfl);have ro:=bY .u8 R 32 aS;have bM:=aa hr;have bO:=aa aS;have HB:=aa (bb.o.trans (V.mono bb.o.size));clear V hr aS
       go_wp2_with fail
       refine ej rfl underlying22 rfl gE (w.heap.size+3) (ai .u8 R) _ rfl rfl bM.o (by rw[ag];rfl) (by rw[ag,bO.o]) ⟨rfl,?_⟩;exact HB.o.grown (aG _ _ _ _) HB.o.size (λk F=>by injection F with F;omega)
end Go.Proofs.P
namespace Go.Spk
def nine:List Int:=9::List.replicate 31 0
def mJ(a:List Int):List Int:=eE (di a nine)
theorem m9(a:aR):(mJ a).length=32:=dV _ _ _ _
end Go.Spk
namespace Go.Proofs.P
attribute [local go_sem ↓] iw iy
attribute [local go_sem] cr cD
theorem yK(a:aR)(r:a.length=32)(A:jr a)(w:ay):
 Calls prog 150 #[.agg (ai .u8 a)] w λe H=>e= .returned (.agg (ai .u8 (mJ a)))/\Below w.heap.size w H:=by
 have B:=aa (λW=>yL a nine r rfl A (cm an) W);have f:=aa (m9 a);have C:=aa r;clear r A;rw[show eE (di a nine)=mJ a from rfl]at B;generalize mJ a=L at*;generalize(!decide (di a nine=0))=z at*
 go_enter func150,ntmps150
 go_upto_region 1 with(fail)
 refine aU (λW=>Below w.heap.size w W/\Whole W w.heap.size 22 (ai .u8 a)/\Whole W (w.heap.size+1) 22 (ai .u8 (List.replicate 32 0))) ⟨by go_grown,(Whole.new rfl rfl).alloc _,Whole.new bj rfl⟩ ?_;intro I ⟨h,b,i⟩;have j:=aa h;have J:=aa b;have k:=aa i;have D:=(At.j b).R (m:=32) (by rw[ag,C.o]);have E:=(At.j b).row (m:=32) (by rw[ag,C.o]);clear h b i
 go_wp2_with fail
 refine(B.o I).mono ?_;rintro e l ⟨rfl,s⟩;have n:=aa (k.o.below s k.o.inside);have c:=aa (j.o.trans (s.mono j.o.size));have M:=bY .u8 L 32 f.o;have d:=Whole.new (w:=l) (g:=l.heap.size) (t:=22) (cs:= #[ao,ao,ao,ao,ao,ao,ao,ao,ao,ao,ao,ao,ao,ao,ao,ao,ao,ao,ao,ao,ao,ao,ao,ao,ao,ao,ao,ao,ao,ao,ao,ao]) rfl rfl;have K:=(At.j d).R (m:=32) rfl;have F:=aa d;clear s D E d
 go_upto_region 2 with(fail)
 have u:=aG l.heap.size (ai .u8 L).toList 0 (l.alloc (.cells #[ao,ao,ao,ao,ao,ao,ao,ao,ao,ao,ao,ao,ao,ao,ao,ao,ao,ao,ao,ao,ao,ao,ao,ao,ao,ao,ao,ao,ao,ao,ao,ao] 22));have v:=c.o.alloc c.o.size (.cells #[ao,ao,ao,ao,ao,ao,ao,ao,ao,ao,ao,ao,ao,ao,ao,ao,ao,ao,ao,ao,ao,ao,ao,ao,ao,ao,ao,ao,ao,ao,ao,ao] 22);refine aU (λW=>Below w.heap.size w W/\Whole W (w.heap.size+1) 22 (ai .u8 (List.replicate 32 0))/\Whole W l.heap.size 22 (ai .u8 L)) ⟨v.grown u v.size (λq o=>by injection o with o;have:=c.o.size;omega),(n.o.alloc _).only u (bE (bD n.o.inside)),F.o.fill (by rw[ag,f.o];rfl)⟩ ?_;intro N ⟨G,x,kL⟩;have D:=(At.j kL).R (m:=32) (by rw[ag,f.o]);have E:=(At.j kL).row (m:=32) (by rw[ag,f.o]);have O:=(At.j x).R (m:=32) rfl;have p:=aa G;have y:=aa x;clear G x kL K v u F
 go_wp2_with fail
 refine ej rfl underlying22 rfl gE (w.heap.size+1) (ai .u8 L) _ rfl rfl y.o (by rw[ag];rfl) (by rw[ag,f.o]) ⟨rfl,?_⟩;exact p.o.grown (aG _ _ _ _) p.o.size (λq o=>by injection o with o;omega)
end Go.Proofs.P
