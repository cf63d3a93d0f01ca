/- Lemmas on which SessionPins rests. -/
import Derived.Test.YtcjcibnggioknaaGreatDoorZ05
import Derived.Test.YtcjcibnggioknaaGreatDoorZ06
set_option maxRecDepth 100000
set_option maxHeartbeats 40000000
set_option linter.unusedVariables false
open Go.RowKit Go.Spk
open Go.Proofs.Tryz
namespace Go.Spk
def Cg(n i:Nat):Nat:=n/2^(8*i) %256
def oT(m n:Nat):List Int:=eH (Cg n) (Cg n) m m
theorem fP(m n:Nat):(oT m n).length=m:=du _ _ _ _
theorem Ye(n i:Nat):Cg n i<256:=fF _ an
theorem Ez(n q r:Nat)(a:r<4):Cg n (4*q+r)=gq n q/2^(8*r) %256:=by
 unfold Cg gq;rw[show 8*(4*q+r)=32*q+8*r by omega,ly,<-bQ];generalize n/2^(32*q)=x;rcases(af:r=0\/r=1\/r=2\/r=3)with rfl|rfl|rfl|rfl<;>simp only[Nat.mul_zero,Nat.mul_one,Nat.reduceMul,Nat.reducePow]<;>omega
theorem Ae{w W}{g i}{t}{k}{v v'}{ws ws'}(h:eU w W g t k ws)(a:ws.set i v=ws')(e:v'=v):eU w (W.setCell ⟨g,i,none⟩ (.int k v')) g t k ws':=by
 subst a e;exact h.set i _
theorem uI{f}{m}:eH f (λ_=>0) m 0=List.replicate m 0:=by
 apply nU
 .simp[eH]
 .intro i a b;simp[eH]
theorem I3{f g}{m}:eH f g m m=eH f f m m:=jN λi a=>by rw[aJ a,aJ a]
end Go.Spk
namespace Go.Proofs.P
attribute [local go_sem ↓] iw iy
attribute [local go_sem] cr cD
theorem Fv(n g:Nat)(w:ay)(y:Whole w g 314 (ai .u32 (pg 9 n))):
 Calls prog 236 #[.pointer (some ⟨g,0,none⟩)] w λe L=>e= .returned (.agg (ai .u8 (oT 32 n)))/\Below w.heap.size w L:=by
 have F:=aa y.inside;have M:=aa y;clear y;obtain⟨Z,z⟩:=aP (oT 32 n);rw[<-z];have G:=aa z;clear z
 go_enter func236,ntmps236
 go_wp2_with fail
 refine aU (λW=>Below w.heap.size w W/\Whole W w.heap.size 22 (ai .u8 (List.replicate 32 0))/\Whole W (w.heap.size+1) 22 (ai .u8 (List.replicate 32 0))) ⟨by go_grown,(Whole.new bj rfl).alloc _,Whole.new bj rfl⟩ ?_;intro H ⟨j,s,t⟩;have u:=aa j;have A:=aa s;have B:=aa t;have C:=aa (M.o.below j F.o);clear j s t
 go_loopw [5] (λi wr=> ∃k:Nat,k<=32/\i= .int .i64 (k:Int)/\eU H wr (w.heap.size+1) 22 .u8 (eH (Cg n) (λ_=>0) 32 k)) (λi _=>32 -(intOf i).toNat)
 case atStart=>exact⟨0,af,rfl,by rw[uI];exact eU.start B.o⟩
 case round=>
  obtain⟨k,v,rfl,l⟩:=hrel;have D:=aa l
  by_cases c:k<32
  .obtain⟨q,r,x,rfl⟩:∃q r,r<4/\k=4*q+r:=⟨k/4,k %4,af,af⟩;have U:=Bd (l.other C.o (dp F.o)) (i:=q) af;have N:((4*q+r:Nat):Int)/4=q:=af;have O:((4*q+r:Nat):Int) %4=r:=af;have V:(q:Int)<9:=af;have P:=l.et.int (4*q+r) (by rw[du];exact c);have Q:=l.et.free (4*q+r);have d:=aa (jV (f:=Cg n) (g:=λ_=>0) c);rw[Ez n q r x]at d;have X:=ji n q;generalize gq n q=a at*;have o:=aa c;have R:((4*q+r:Nat):Int)<32:=af;obtain⟨K,I⟩:=aP (4*q+r);rw[<-I]at N O P Q d o R D⊢;clear l v c I;rcases(af:r=0\/r=1\/r=2\/r=3)with rfl|rfl|rfl|rfl
   all_goals
    go_wp2_with fail
    go_roundw
    case rel=>
     refine⟨K+1,by have:=o.o;omega,by go_num,?_⟩;refine Ae D.o d.o ?_;simp only[Nat.reduceMul,Nat.reducePow];omega
    case measure=>have:=o.o;simp[intOf];omega
  .obtain rfl:k=32:=af;have p:=l;rw[I3]at p;have b:eU H wr (w.heap.size+1) 22 .u8 (oT 32 n):=p;rw[<-G.o]at b;have h:Z.length=32:=by rw[G.o];exact fP _ _
   have x:=b.other A.o af;have Y:=(At.j b.et).R (m:=32) (by rw[ag,h]);have r1:=(At.j b.et).row (m:=32) (by rw[ag,h]);have l2:=(At.j x).R (m:=32) (by rw[ag];rfl);have ro:=bY .u8 Z 32 h;have S:=aa x;have E:=aa h;have J:=aa (b.below u.o af u.o.size);clear l p b x h D v c
   go_wp2_with fail
   refine ej rfl underlying22 rfl gE w.heap.size (ai .u8 Z) _ rfl rfl S.o (by rw[ag];rfl) (by rw[ag,E.o]) ⟨rfl,?_⟩;exact J.o.grown (aG _ _ _ _) J.o.size (λk v=>by injection v with v;omega)
end Go.Proofs.P
namespace Go.Spk
theorem OI(x b:Nat)(a:b<=1):CH (2*(x %lS)+b)=(2*x+b) %lS:=by
 unfold CH lS
 split<;>omega
theorem YT:0<lS:=an
theorem QY(V q:Nat):V/2^q=2*(V/2^(q+1))+ep V q:=by
 unfold ep;rw[Nat.pow_succ,<-bQ];omega
end Go.Spk
namespace Go.Proofs.P
attribute [local go_sem ↓] iw iy
attribute [local go_sem] cr cD
theorem jS.lt{w}(h:jS w):27<w.heap.size:=aH (h.at_ (i:=0) an)
theorem vk(s:bB)(hs:s.size<=1000000000)(w:ay)(P:jS w):
 Calls prog 217 #[.string s] w λe w'=>e= .returned (.agg (ai .u8 (oT 32 (q7 ((bI s).take 64) %lS))))/\Below w.heap.size w w':=by
 obtain⟨n,hn⟩:=aP (min s.size 64);have p:min (s.size:Int) 64=(n:Int):=af;have Q:(n:Int)<=s.size:=af;have S:(0:Int)<=n:=af;have r:min n s.size=n:=af;have t:n<=64:=af;have HO:=aa P;have u:=aa (show w.heap.size+1≠27 by have:=P.lt;omega);obtain⟨R,x⟩:=aP (oT 32 (q7 ((bI s).take 64) %lS));rw[<-x];obtain⟨E,N⟩:=aP (s.extract 0 n)
 have he:(bI s).take 64=bI E:=by
  rw[N,show bI (s.extract 0 n)=(bI s).take n by simp[bI]]
  by_cases h:s.size<=64
  .rw[bL (by rw[aj];exact h),bL (by rw[aj];omega)]
  .congr 1;omega
 have b:E.size=n:=by rw[N];simp;omega
 rw[he]at x;obtain⟨V,O⟩:=aP (q7 (bI E))
 have U:=aa (show V/2^(8*n)=0 by
  rw[O];apply oa;have h:=vG (bI E) (cY (c8 E));rw[aj,b]at h;exact h)
 have y:=aa (show∀i k,k<8->i<n->ep V (8*i+k)=ep (ix (bI E) i).toNat k from λi k c z=>by
  rw[O,E7 _ (cY (c8 E)) i k c (by rw[aj,b];exact z)])
 rw[<-O]at x;have A:=aa x;have HE:=aa N;have X:=aa b;have al:=aa t;have C:=aa r;clear P hn O x N he b r
 go_enter func217,ntmps217
 go_upto_region 4 with(fail)
 rw[C.o,<-HE.o];clear HE p Q S C;refine aU (λW=>Below w.heap.size w W/\Whole W w.heap.size 22 (ai .u8 (List.replicate 32 0))/\Whole W (w.heap.size+1) 314 (ai .u32 (pg 9 0))) ⟨by go_grown,(Whole.new bj rfl).alloc _,by rw[show pg 9 0=List.replicate 9 0 by decide];exact Whole.new bj rfl⟩ ?_;intro W0 ⟨D,F,G⟩;have f:=aa D;have Y:=aa F;have Z:=aa G;clear D F G
 go_loopw [4] (λi wr=> ∃m:Nat,m<=8*n/\i= .int .i64 ((m:Int) -1)/\eU W0 wr (w.heap.size+1) 314 .u32 (pg 9 (V/2^m %lS))) (λi _=>(intOf i+1).toNat)
 case atStart=>exact⟨8*n,af,by go_num,by rw[U.o];exact eU.start Z.o⟩
 case round=>
  obtain⟨m,hm,rfl,d⟩:=hrel;have o:=aa d;clear d
  by_cases H:m=0
  .subst H;have d:=o.o;rw[Nat.pow_zero,Nat.div_one]at d;have HX:=aa d.et;have I:=aa (d.below f.o af f.o.size);have J:=aa (d.other Y.o af);clear d o hm
   go_wp2_with fail
   refine(Fv (V %lS) (w.heap.size+1) wr HX.o).mono ?_;rintro e W1 ⟨rfl,g⟩;rw[<-A.o];have j:R.length=32:=by rw[A.o];exact fP _ _
   have hr:=J.o.below g J.o.inside;have l2:=(At.j hr).R (m:=32) (by rw[ag];rfl);have ro:=bY .u8 R 32 j;have HR:=aa hr;have ab:=aa j;have HB:=aa (I.o.trans (g.mono I.o.size));clear g hr j
   go_wp2_with fail
   refine ej rfl underlying22 rfl gE w.heap.size (ai .u8 R) _ rfl rfl HR.o (by rw[ag];rfl) (by rw[ag,ab.o]) ⟨rfl,?_⟩;exact HB.o.grown (aG _ _ _ _) HB.o.size (λk c=>by injection c with c;omega)
  .obtain⟨q,rfl⟩:∃q,m=q+1:=⟨m -1,af⟩;have i1:((q+1:Nat):Int) -1=q:=af;have i2:(0:Int)<=q:=af;obtain⟨i,k,c,hq⟩:∃i k,k<8/\q=8*i+k:=⟨q/8,q %8,af,af⟩;have z:i<n:=af;have d1:(q:Int)/8=i:=af;have d2:(q:Int) %8=k:=af;have k8:(k:Int)<8:=af;have an:(i:Int)<64:=af;have i0:(0:Int)<=i:=af;have iE:i<E.size:=by rw[X.o];exact z
   have ao:(i:Int)<E.size:=af;have a:=y.o i k c z;rw[<-hq]at a;have K:=c8 E i;obtain⟨B,g⟩:=au K.1;have av:((E[i]'iE).toNat:Int)=B:=(AV E i iE).symm.trans g;rw[g,cW]at a;have hb:=zH B k af;rw[<-a]at hb;have l:=wj V q;have L:=aa (by rw[OI _ _ l,<-QY]:CH (2*(V/2^(q+1) %lS)+ep V q)=V/2^q %lS);have HQ:=aa (af:q<=8*n);have ad:=aa l;have ax:IntKind.u32.wrap ((ep V q:Nat):Int)=((ep V q:Nat):Int):=by rw[qx];omega
   clear a K g hm H hq z l;generalize ep V q=bt at*;obtain⟨v,hv⟩:=aP (V/2^(q+1) %lS);have M:=aa (by rw[hv];exact fF _ YT:v<lS);rw[<-hv]at o L;clear hv
   go_wp2_with fail
   refine(Fx v (w.heap.size+1) bt wr o.o.et (((HO.o.below f.o)).only o.o.only u.o) M.o ad.o u.o).mono ?_;rintro e W1 ⟨rfl,hw,c⟩;rw[L.o]at hw;have HW:=aa (eU.mk (aZ o.o.only c) hw:eU W0 W1 (w.heap.size+1) 314 .u32 (pg 9 (V/2^q %lS)));clear hw c
   go_wp2_with fail
   go_roundw
   case rel=>exact⟨q,HQ.o,by go_num,HW.o⟩
   case measure=>simp[intOf]
end Go.Proofs.P
namespace Go.Spk
theorem My:∀(ws:aR),(∀b∈ws,0<=b/\b<=255)-> ∀i,i<ws.length->((Cg (q7 ws) i:Nat):Int)=ix ws i
 | [],_,i,h=>by simp at h
 |b::r,a,i,h=>by
  have c:=a b bj;obtain⟨n,rfl⟩:=au c.1
  match i with
  |0=>
   show((((n:Int).toNat+256*q7 r)/2^(8*0) %256:Nat):Int)=(n:Int);rw[cW,vt,Nat.pow_zero,Nat.div_one];omega
  |i+1=>
   have d:=My r (λx e=>a x (by simp[e])) i (ek h);show((((n:Int).toNat+256*q7 r)/2^(8*(i+1)) %256:Nat):Int)=ix r i;rw[<-d,cW];unfold Cg;rw[show 8*(i+1)=8+8*i by omega,ly,<-bQ,show(n+256*q7 r)/2^8=q7 r by omega]
theorem Qr(n q:Nat):gq n q=Cg n (4*q)+256*Cg n (4*q+1)+65536*Cg n (4*q+2)+16777216*Cg n (4*q+3):=by
 have h:=Ez n q;have a:=h 0 af;have b:=h 1 af;have c:=h 2 af;have d:=h 3 af;rw[vr]at a;rw[a,b,c,d];have:=ji n q;generalize gq n q=x at*;simp only[Nat.reduceMul,Nat.reducePow,Nat.div_one];omega
theorem yk{P}{ops}{w}{g o}{Q}{q}{a}(v:cH)(h1:Region.wanted q (yielded ops a.tmps)=true)(d:q.dst=none)
 (b:∀W,Below w.heap.size w W->(execOp a.eval q).run P W= .ok .skip (W.setCell ⟨g,o,none⟩ v)) (k:Q (a.put none undef) true):jP P ops (St w g o [v]) Q [q] a false:=by
 simp only[jP,h1,if_true];intro W e;have c:Below w.heap.size w W:=e;rw[b W c];refine⟨true,⟨W,c,?_⟩,?_⟩
 .have:=aw W.heap.size (W.setCell ⟨g,o,none⟩ v);exact this
 .rw[d];exact k
theorem St.Qa{w W}{g o}{T}{k}{ws}{v}(h:St w g o [.int k v] true W)(a:Whole w g T (ai k ws)):Whole W g T (ai k (ws.set o v)):=by
 obtain⟨e,b,d⟩:=h;have c:=(a.below b a.inside).stored o (.int k v);rw[ue]at c;exact c.below d (aL a.inside b.size)
end Go.Spk
namespace Go.Proofs.P
theorem Tu{ks}(b:ks.length=32)(a:jr ks){i}(c:i<8):xA (ix ks (4*i)) (ix ks (4*i+1)) (ix ks (4*i+2)) (ix ks (4*i+3))=((gq (q7 ks) i:Nat):Int):=by
 have h:=My ks (cY a);rw[Qr,<-h (4*i) af,<-h (4*i+1) af,<-h (4*i+2) af,<-h (4*i+3) af];unfold xA;omega
theorem xf{ks}(a:ks.length=32)(b:jr ks){i:Nat}(c:i<8)(w:ay):
 Calls prog 218 #[.agg (ai .u8 ks),.int .i64 (i:Int)] w λe d=>e= .returned (.int .u64 ((gq (q7 ks) i:Nat):Int))/\Below w.heap.size w d:=by
 rw[<-Tu a b c];exact IH ks i c a b w
theorem IG(a:aR)(l:a.length=32)(z:jr a)(w:ay)(B:jS w):
 Calls prog 194 #[.agg (ai .u8 a)] w λe U=>e= .returned (.bool (decide (q7 a<lS)))/\Below w.heap.size w U:=by
 have X:=aa l;have BK:=aa z;have Y:=aa B;have n:=aa (λ(i:Nat) (C:i<8) W=>xf l z C W);obtain⟨V,D⟩:=aP (q7 a);have o:=aa (show V<2^(32*8) by rw[D];have h:=vG a (cY z);rw[l]at h;exact h);rw[<-D]at n⊢;have E:=aa ((wu V 8).trans (by rw[oa o.o]:V/2^(32*8)/4294967296=0));have Z:=aa (show w.heap.size+1≠27 by have:=B.lt;omega);clear l z B D
 go_enter func194,ntmps194
 go_upto_region 2 with(fail)
 refine aU (λW=>Below w.heap.size w W/\Whole W w.heap.size 22 (ai .u8 a)/\Whole W (w.heap.size+1) 314 (ai .u32 (List.replicate 9 0))) ⟨by go_grown,(Whole.new rfl rfl).alloc _,Whole.new bj rfl⟩ ?_;intro W0 ⟨p,r,t⟩;have F:=aa p;have G:=aa r;have H:=aa t;clear p r t
 go_wp2_with fail
 go_loopw [7] (λi wr=> ∃k:Nat,k<=8/\i= .int .i64 (k:Int)/\Below w.heap.size w wr/\Whole wr w.heap.size 22 (ai .u8 a)/\Whole wr (w.heap.size+1) 314 (ai .u32 (eH (gq V) (λ_=>0) 9 k))) (λi _=>8 -(intOf i).toNat)
 case atStart=>exact⟨0,af,rfl,F.o,G.o,by rw[uI];exact H.o⟩
 case round=>
  obtain⟨k,l,rfl,N,O,P⟩:=hrel;have u:=aa N;have I:=aa O;have A:=aa P;clear N O P
  by_cases j:k<8
  .have k8:(k:Int)<8:=af;have k9:(k:Int)<9:=af;have J:=aa (λW=>n.o k j W);have v:=aa (jV (f:=gq V) (g:=λ_=>0) (m:=9) (k:=k) af);have la:=ji V k;generalize gq V k=d at*;have hw:IntKind.u32.wrap (d:Int)=d:=by rw[qx];omega
   have x:=aa j;clear j l
   go_upto_region 5 with(fail)
   refine dQ 8 (St wr (w.heap.size+1) k [.int .u32 (d:Int)]) false al al (St.start _ _ _ _) ?_;refine qQ (.pointer (some ⟨w.heap.size+1,0,none⟩)) ?_;refine qQ (.int .i64 (k:Int)) ?_;refine bS (λK Q=> ?_);refine dK al 22 (.tmp 1) rfl (w.heap.size) 0 rfl (ai .u8 a) _ ((At.j I.o)) I.o.inside (bD (Nat.lt_succ_self _)) underlying22 rfl (by rw[ag];exact gE.trans (aA some X.o.symm)) ?_;go_simp;refine Q _ ?_;clear Q K;refine qQ (.int .i64 (k:Int)) ?_;refine rD (.int .u64 (d:Int)) (λs W c=> ?_) ?_
   .refine fR (f:=218) (args:=(#[.agg (ai .u8 a),.int .i64 (k:Int)])) fN c ?_;exact J.o W
   refine qQ (.int .u32 (d:Int)) ?_;refine qQ (.pointer (some ⟨w.heap.size+1,0,none⟩)) ?_;refine qQ (.pointer (some ⟨w.heap.size+1,k,none⟩)) ?_;refine ft ?_;refine yk (.int .u32 (d:Int)) al rfl (λW c=>by have b:=A.o.below c A.o.inside;have c0:=b.int k (by rw[du];omega);have f0:=b.free k;go_simp) ?_;intro W9 c;have b:=c.Qa A.o;rw[v.o]at b;have L:=aa b;have HR:=aa (c.other I.o af);have M:=aa (u.o.grown c.grown u.o.size (λq R=>by injection R with R;omega));clear c b
   go_wp2_with fail
   go_roundw
   case rel=>exact⟨k+1,by have:=x.o;omega,by go_num,M.o,HR.o,L.o⟩
   case measure=>have:=x.o;simp[intOf];omega
  .obtain rfl:k=8:=af;have y:gq V 8=0:=by unfold gq;rw[oa o.o]
   have b:=A.o
   rw[show eH (gq V) (λ_=>0) 9 8=pg 9 V from jN λi C=>by
    rw[aJ C]
    by_cases h:i<8
    .rw[aJ h]
    .obtain rfl:i=8:=af;rw[aq h,y]]at b
   have L:=aa b;clear b y
   go_wp2_with fail
   refine(uf V (w.heap.size+1) wr L.o (Y.o.below u.o) E.o).mono ?_;rintro e W1 ⟨rfl,S⟩;have M:=aa (u.o.trans (S.mono u.o.size));clear S
   go_wp2_with fail
   go_ret
   exact⟨rfl,M.o⟩
end Go.Proofs.P
namespace Go.Spk
theorem WS{w W}{g i}{t}{k}{v v'}{ws ws'}(h:eU w W g t k ws)(a:ws.set i v=ws')(e:v'=v):eU w (W.setCell ⟨g,i,none⟩ (.int k v')) g t k ws':=by
 subst a e;exact h.set i _
theorem BF{f}{m}:eH f (λ_=>0) m 0=List.replicate m 0:=by
 apply nU
 .simp[eH]
 .intro i a b;simp[eH]
def Pj(t v:Nat)(j:Nat):Nat:=if j=t then v else 0
theorem Tn{f}{m t}:eH f (λ_=>0) m t=eH f (Pj t 0) m t:=jN λi a=>by
 by_cases h:i<t
 .rw[aJ h,aJ h]
 .rw[aq h,aq h];unfold Pj;split<;>rfl
theorem I5{f}{m t v v'}(h:t<m):(eH f (Pj t v) m t).set t ((v':Nat):Int)=eH f (Pj t v') m t:=by
 apply nU
 .simp[eH]
 .intro i c b;simp only[eH,List.length_map,List.length_range]at b;rw[List.getElem_set]
  by_cases e:t=i
  .subst e;simp[eH,Pj]
  .rw[aq e];simp only[eH,List.getElem_map,List.getElem_range]
   by_cases a:i<t
   .rw[aJ a,aJ a]
   .rw[aq a,aq a];unfold Pj;rw[aq (λx=>e x.symm),aq (λx=>e x.symm)]
theorem I4{f}{m t v}(h:v=f t):eH f (Pj t v) m t=eH f (λ_=>0) m (t+1):=jN λi b=>by
 subst h
 by_cases a:i<t
 .rw[aJ a,aJ af]
 .rw[aq a]
  by_cases e:i=t
  .subst e;rw[aJ af];unfold Pj;rw[aJ rfl]
  .rw[aq af];unfold Pj;rw[aq e]
theorem LF{f}{m t v}(h:t<m):ix (eH f (Pj t v) m t) t=(v:Int):=by
 rw[mo h,aq (pM _)];unfold Pj;rw[aJ rfl]
def OO(b:Bool)(et:List Int):List Int:=eH (sH b et) (λ_=>0) 80 (tq b)
theorem ze(b:Bool)(et:aR):(OO b et).length=80:=du _ _ _ _
def rp(p:Nat×Nat×Nat):List Int:= [(p.1:Int),(p.2.1:Int),(p.2.2:Int)]
theorem om(b:Bool)(x:Nat):jT b (x %18446744073709551616)=jT b x:=by
 unfold jT;cases b
 .show x %18446744073709551616 %4294967296=x %4294967296;omega
 .show x %18446744073709551616 %18446744073709551616=x %18446744073709551616;omega
theorem Em(a b:Nat):IntKind.u64.wrap ((a:Int)+b)=(((a+b) %18446744073709551616:Nat):Int):=by rw[bH];omega
theorem St.si{w W}{g o i}{v u}{s}(h:St w g o [v] s W)(c:w.cell? ⟨g,i,none⟩=some u)(a:i≠o):W.cell? ⟨g,i,none⟩=some u:=by
 cases s with
 |false=>exact(Below.cell h (p:=⟨g,i,none⟩) (aH c)).trans c
 |true=>
  obtain⟨b,d,f⟩:=h;have c1:=(Below.cell d (p:=⟨g,i,none⟩) (aH c)).trans c
  have c2:(b.setCell ⟨g,o,none⟩ v).cell? ⟨g,i,none⟩=some u:=by
   rw[World.cell?_setCell_other _ _ _ _ (by intro e;injection e with _ e;exact a e.symm)];exact c1
  exact(Below.cell f (p:=⟨g,i,none⟩) (by have:=aH c1;simpa[World.setCell]using this)).trans c2
end Go.Spk
namespace Go.Proofs.P
section
variable {d:Tmp}{x y:Operand}{ty:TypeId}{pos:String}{after:Array Edge}{gd:Option (Nat×Bool)}{a:Go.Act}{w:World}{K:Go.Act->World->Prop}{Q:Exit->Go.Act->World->Prop}
theorem WU(b:jQ w (a.eval x) 80):Oper.wp prog ⟨some d,.load 230 x,ty,pos,after,gd⟩ a w K Q=K (a.put (some d) (jx w (a.eval x) 80)) w:=iS underlying230 rfl al b
theorem Xc(b:jQ w (a.eval x) 80)(c:mZ 80 (a.eval y)):Oper.wp prog ⟨none,.store 230 x y,ty,pos,after,gd⟩ a w K Q=K (a.put none undef) (w.setCells (lY (a.eval x)) (lZ (a.eval x)) (a.eval y).cells.toList):=lj al b c
end
theorem YP:(prog.info? 230).map (·.size)=some 80:=al
theorem XF(p:Nat×Nat×Nat):(prog.info? 141).map (·.size)=some (ai .i64 (rp p)).size:=by rw[ag];kernel_rfl
theorem vE{w}{g}{T}{b}(h:Whole w g T (ai .i64 (dw b))):w.cell? ⟨g,0,none⟩=some (.int .i64 ((jp b:Nat):Int))/\w.cell? ⟨g,1,none⟩=some (.int .i64 ((tq b:Nat):Int)):=by
 constructor
 .rw[h.at_];cases b<;>rfl
 .rw[h.at_];cases b<;>rfl
theorem Vd{w}{g}{T}{b}(h:Whole w g T (ai .i64 (dw b))):At w g 2 (ai .i64 (rp (SE b))):=
 At.field (pre:= [((jp b:Nat):Int),((tq b:Nat):Int)]) (post:=rp (SF b)++rp (Yu b)++rp (Yv b)) (by cases b<;>exact h) rfl
theorem Ve{w}{g}{T}{b}(h:Whole w g T (ai .i64 (dw b))):At w g 5 (ai .i64 (rp (SF b))):=
 At.field (pre:= [((jp b:Nat):Int),((tq b:Nat):Int)]++rp (SE b)) (post:=rp (Yu b)++rp (Yv b)) (by cases b<;>exact h) rfl
theorem Lr(b:Bool)(x:Nat)(a:x<2^jp b)(w:ay):Calls prog 166 #[.agg (ai .i64 (dw b)),.int .u64 x,.agg (ai .i64 (rp (SE b)))] w λe c=>e= .returned (.int .u64 (pn b x (SE b):Nat))/\Below w.heap.size w c:=by
 cases b
 .exact oN false x 7 18 3 a an an an w
 .exact oN true x 1 8 7 a an an an w
theorem Ls(b:Bool)(x:Nat)(a:x<2^jp b)(w:ay):Calls prog 166 #[.agg (ai .i64 (dw b)),.int .u64 x,.agg (ai .i64 (rp (SF b)))] w λe c=>e= .returned (.int .u64 (pn b x (SF b):Nat))/\Below w.heap.size w c:=by
 cases b
 .exact oN false x 17 19 10 a an an an w
 .exact oN true x 19 61 6 a an an an w
theorem Lp(b:Bool)(x:Nat)(a:x<2^jp b)(w:ay):Calls prog 125 #[.agg (ai .i64 (dw b)),.int .u64 x,.agg (ai .i64 (rp (Yu b)))] w λe c=>e= .returned (.int .u64 (tL b x (Yu b):Nat))/\Below w.heap.size w c:=by
 cases b
 .exact oM false x 2 13 22 a an an an w
 .exact oM true x 28 34 39 a an an an w
theorem Lq(b:Bool)(x:Nat)(a:x<2^jp b)(w:ay):Calls prog 125 #[.agg (ai .i64 (dw b)),.int .u64 x,.agg (ai .i64 (rp (Yv b)))] w λe c=>e= .returned (.int .u64 (tL b x (Yv b):Nat))/\Below w.heap.size w c:=by
 cases b
 .exact oM false x 6 11 25 a an an an w
 .exact oM true x 14 18 41 a an an an w
end Go.Proofs.P
namespace Go.Spk
theorem OY(l:aR)(j:Nat)(h:j<l.length):l.take (j+1)=l.take j++ [ix l j]:=by
 rw[mT];congr 1;unfold ix;simp[List.getD,h]
theorem Va(l:aR)(q j:Nat):ix (l.drop q) j=ix l (q+j):=by
 unfold ix;simp[List.getD]
theorem VP(v B:Nat)(hv:v<72057594037927936)(a:B<256):bits BinOp.or IntKind.u64 ((v:Int)*256) (B:Int)=((v*256+B:Nat):Int):=by
 rw[show(v:Int)*256=((v*256:Nat):Int) by omega,u64_or_nat _ _ af af];congr 1;have h:=Nat.shiftLeft_add_eq_or_of_lt (i:=8) (b:=B) af v;rw[Nat.shiftLeft_eq]at h;exact h.symm
end Go.Spk
namespace Go.Proofs.P
attribute [local go_sem ↓] WU Xc
attribute [local go_sem] cr cD
theorem CN(b:Bool)(s:bB)(M:s.size=2*jp b)(w:ay):
 Calls prog 124 #[.agg (ai .i64 (dw b)),.string s] w λe w'=>e= .returned (.agg (ai .u64 (OO b (bI s))))/\Below w.heap.size w w':=by
 obtain⟨n,hn⟩:=aP (jp b/8);have S:jp b=8*n:=by rcases FB b with h|h<;>omega
 have bA:n<=8:=by rcases FB b with h|h<;>omega
 have bC:1<=n:=by rcases FB b with h|h<;>omega
 have a6:=aa (λt (ht:t<16)=>M6 (b:=b) (et:=bI s) ht);have a7:=aa (λt (ht:16<=t)=>M5 (b:=b) (et:=bI s) ht);have aB:=aa (λt=>M7 (b:=b) (cY (c8 s)) t);have bE:=aa (Tp b);have hR:tq b<=80:=by cases b<;>decide
 have A:16<=tq b:=by cases b<;>decide
 obtain⟨Z,hZ⟩:=aP (OO b (bI s));have HZ:=aa hZ;have U:=aa (show eH (sH b (bI s)) (λ_=>0) 80 (tq b)=Z from hZ.symm);have aC:=aa (af:s.size=16*n);have HN:=aa hn;rw[<-hZ];obtain⟨f,hf⟩:=aP (sH b (bI s));rw[<-hf]at U;have HF:=aa hf;clear M hZ hn hf;obtain⟨R,V⟩:=aP (tq b);rw[<-V]at hR A U;have a8:=aa V;have bx:=aa A;clear V A;obtain⟨W1,X⟩:=aP (jp b);rw[<-X]at S;have a9:=aa X;have bF:(W1:Int)/8=n:=af;have bG:=aa S;clear X S
 go_enter func124,ntmps124
 go_upto_region 2 with(fail)
 refine aU (λW=>Below w.heap.size w W/\Whole W w.heap.size 143 (ai .i64 (dw b))/\Whole W (w.heap.size+1) 230 (ai .u64 (List.replicate 80 0))/\Whole W (w.heap.size+2) 230 (ai .u64 (List.replicate 80 0))) ⟨by go_grown,((Whole.new rfl rfl).alloc _).alloc _,(Whole.new bj rfl).alloc _,Whole.new bj rfl⟩ ?_;intro W0 ⟨kB,kK,kO,kT⟩;have aE:=aa kB;have ba:=aa kK;have bb:=aa kO;have bc:=aa kT;obtain⟨c0,c1⟩:=vE kK;rw[<-a9.o]at c0;rw[<-a8.o]at c1;have f0:=kK.free 0;clear kB kK kO kT
 go_wp2_with fail
 go_loopw [14] (λi wr=> ∃t:Nat,t<=R/\i= .int .i64 (t:Int)/\eU W0 wr (w.heap.size+2) 230 .u64 (eH f (λ_=>0) 80 t)) (λi _=>R -(intOf i).toNat)
 case atStart=>exact⟨0,af,rfl,by rw[BF];exact eU.start bc.o⟩
 case round=>
  obtain⟨t,ht,rfl,N⟩:=hrel;have C:=aa N;have HT:=aa ht;clear N ht c0 c1
  by_cases aF:t<R
  .have tR:(t:Int)<R:=af;have bM:(t:Int)<80:=af;have o:=aa aF;clear aF
   by_cases O:t<16
   .have bd:(t:Int)<16:=af;have y:=aa O;clear O;obtain⟨q,hq⟩:=aP (t*n);have aK:(t:Int)*(n:Int)=(q:Int):=by rw[hq];push_cast;rfl
    have J:q+n<=16*n:=by
     rw[hq];have:=Nat.mul_le_mul_right n (show t+1<=16 by have:=y.o;omega);rw[Nat.succ_mul]at this;exact this
    have D:f t=Pd (((bI s).drop q).take n):=by rw[HF.o,a6.o t y.o,<-HN.o,hq]
    have be:=aa D;have aR:=aa J;clear hq J D;have n8:(n:Int)<=8:=af
    go_wp2_with fail
    go_loopw [20] (λi W=> ∃j:Nat,j<=n/\i= .int .i64 (j:Int)/\eU W0 W (w.heap.size+2) 230 .u64 (eH f (Pj t (Pd (((bI s).drop q).take j))) 80 t)) (λi _=>n -(intOf i).toNat)
    case atStart=>exact⟨0,af,rfl,by rw[List.take_zero];rw[Tn]at C;exact C.o⟩
    case round=>
     obtain⟨j,hj,rfl,hv⟩:=hrel;have HV:=aa hv;clear hv
     by_cases aS:j<n
     .have jn:(j:Int)<n:=af;obtain⟨p,hp⟩:=aP (q+j);have bg:=aC.o;have J:=aR.o;have bO:IntKind.i64.wrap ((t:Int)*n)=q:=by rw[aK,fu];omega
      have bR:IntKind.i64.wrap ((q:Int)+j)=p:=by rw[fu];omega
      have p0:(0:Int)<=p:=af;have bU:IntKind.i64.wrap (q:Int)=q:=by rw[fu];omega
      have aV:p<s.size:=by rw[aC.o];have:=aR.o;omega
      have bz:(p:Int)<s.size:=af;have bh:((s[p]'aV).toNat:Int)=ix (bI s) p:=(AV s p aV).symm;obtain⟨B,hB⟩:=au (c8 s p).1;have bk:=(c8 s p).2;rw[hB]at bh bk;have P:j<((bI s).drop q).length:=by rw[bK,aj];omega
      have Y:=OY ((bI s).drop q) j P;rw[Va,<-hp,hB]at Y;have bl:=aa (by rw[Y,PM];rfl:Pd (((bI s).drop q).take (j+1))=Pd (((bI s).drop q).take j)*256+B);have ab:=PK (l:=((bI s).drop q).take j) (λz hz=>cY (c8 s) z (ie (dW hz)));rw[List.length_take_of_le af]at ab;have aX:Pd (((bI s).drop q).take j)<72057594037927936:=aL ab (ap (es an (af:j<=7)) an);clear Y ab P;generalize Pd (((bI s).drop q).take j)=v at*;have bW:IntKind.u64.wrap ((v:Int)*256)=(v:Int)*256:=by rw[bH];omega
      have bm:=VP v B aX af;have ad:=HV.o.et.int t (by rw[du];have:=o.o;omega);rw[LF (dp o.o)]at ad;have bX:=HV.o.et.free t;have E:=aa (I5 (f:=f) (m:=80) (t:=t) (v:=v) (v':=v*256+B) (dp o.o));have HJ:=aa aS;clear hp aS hj hB bg J
      go_wp2_with fail
      go_region_with (fail)
      all_goals
       go_wp2_with fail
       go_roundw
       case rel=>exact⟨j+1,by have:=HJ.o;omega,by go_num,by rw[bl.o];exact WS HV.o.drew E.o bm⟩
       case measure=>have:=HJ.o;simp[intOf];omega
     .obtain rfl:j=n:=af;rw[I4 be.o.symm]at HV;have bn:=HV;clear HV
      go_wp2_with fail
      go_roundw
      case rel=>exact⟨t+1,by have:=o.o;omega,by go_num,bn.out⟩
      case measure=>have:=o.o;simp[intOf];omega
   .have bd:¬(t:Int)<16:=af;have y:=aa (af:16<=t);obtain⟨I,k2⟩:=aP (t -2);obtain⟨Q,k7⟩:=aP (t -7);obtain⟨a,aY⟩:=aP (t -15);obtain⟨u,a0⟩:=aP (t -16);have e2:IntKind.i64.wrap ((t:Int) -2)=I:=by rw[fu];omega
    have e7:IntKind.i64.wrap ((t:Int) -7)=Q:=by rw[fu];omega
    have bZ:IntKind.i64.wrap ((t:Int) -15)=a:=by rw[fu];omega
    have b0:IntKind.i64.wrap ((t:Int) -16)=u:=by rw[fu];omega
    have l2:(I:Int)<80:=af;have l7:(Q:Int)<80:=af;have b1:(a:Int)<80:=af;have b2:(u:Int)<80:=af
    have cell:∀K,K<t->wr.cell? ⟨w.heap.size+2,K,none⟩=some (.int .u64 ((f K:Nat):Int)):=λK x=>by
     have c:=C.o.et.int K (by rw[du];omega);rwa[mo af,aJ x]at c
    have C2:=aa (cell I af);have C7:=aa (cell Q af);have bo:=aa (cell a af);have bp:=aa (cell u af);have N2:=aa (af:I≠t);have N7:=aa (af:Q≠t);have bq:=aa (af:a≠t);have br:=aa (af:u≠t)
    have D:f t=jT b (pn b (f I) (SF b)+f Q+pn b (f a) (SE b)+f u):=by
     rw[HF.o,a7.o t y.o,k2,k7,aY,a0]
    have x2:=aB.o I;have ao:=aB.o a;rw[<-HF.o]at x2 ao;have bs:=aa (λW=>Ls b (f I) x2 W);have bt:=aa (λW=>Lr b (f a) ao W);clear x2 ao cell;generalize f I=y2 at*;generalize f Q=y7 at*;generalize f a=av at*;generalize f u=F at*;generalize pn b y2 (SF b)=z1 at*;generalize pn b av (SE b)=z0 at*;obtain⟨v1,ax⟩:=aP ((z1+y7) %18446744073709551616);obtain⟨v2,az⟩:=aP ((v1+z0) %18446744073709551616);obtain⟨v3,L⟩:=aP ((v2+F) %18446744073709551616);have a1:IntKind.u64.wrap ((z1:Int)+y7)=v1:=by rw[ax];exact Em _ _
    have a2:IntKind.u64.wrap ((v1:Int)+z0)=v2:=by rw[az];exact Em _ _
    have a3:IntKind.u64.wrap ((v2:Int)+F)=v3:=by rw[L];exact Em _ _
    have a4:jT b v3=f t:=by
     rw[D,L,om,az,ax,<-om b (z1+y7+z0+F),<-om b ((((z1+y7) %18446744073709551616+z0) %18446744073709551616)+F)];congr 1;omega
    have a5:=aa (λW=>qW b v3 (by rw[L];exact fF _ an) W);rw[a4]at a5;have E:=aa (jV (f:=f) (g:=λ_=>0) (m:=80) (k:=t) (dp o.o));clear a4 ax az L D k2 k7 aY a0;generalize f t=fv at*;have d:=aa (C.o.other ba.o af);have G:=aa (af:w.heap.size≠w.heap.size+2)
    go_wp2_with fail
    refine dQ 31 (St wr (w.heap.size+2) t [.int .u64 (fv:Int)]) false al al (St.start _ _ _ _) ?_;refine qQ (.int .i64 (t:Int)) ?_;refine bS (λK x=> ?_);refine dK al 143 (.tmp 2) rfl (w.heap.size) 0 rfl (ai .i64 (dw b)) _ ((At.j d.o)) d.o.inside G.o underlying143 rfl (qT b) ?_;go_simp;refine x _ ?_;clear x K;refine bS (λK x=> ?_);refine dK al 143 (.tmp 2) rfl (w.heap.size) 0 rfl (ai .i64 (dw b)) _ ((At.j d.o)) d.o.inside G.o underlying143 rfl (qT b) ?_;go_simp;refine x _ ?_;clear x K;refine qQ (.int .i64 (t:Int)) ?_;refine qQ (.int .i64 (I:Int)) ?_;refine qQ (.pointer (some ⟨w.heap.size+2,I,none⟩)) ?_;refine rD (.int .u64 (y2:Int)) (λs W r=>aD ?_) ?_
    .have c:=r.si C2.o N2.o;go_simp
    refine qQ (.pointer (some ⟨w.heap.size,5,none⟩)) ?_;refine bS (λK x=> ?_);refine dK al 141 (.tmp 46) rfl (w.heap.size) 5 rfl (ai .i64 (rp (SF b))) _ ((Ve d.o)) d.o.inside G.o underlying141 rfl (XF _) ?_;go_simp;refine x _ ?_;clear x K;refine rD (.int .u64 (z1:Int)) (λs W r=> ?_) ?_
    .refine fR (f:=166) (args:=(#[.agg (ai .i64 (dw b)),.int .u64 (y2:Int),.agg (ai .i64 (rp (SF b)))])) fN r ?_;exact bs.o W
    refine qQ (.int .i64 (t:Int)) ?_;refine qQ (.int .i64 (Q:Int)) ?_;refine qQ (.pointer (some ⟨w.heap.size+2,Q,none⟩)) ?_;refine rD (.int .u64 (y7:Int)) (λs W r=>aD ?_) ?_
    .have c:=r.si C7.o N7.o;go_simp
    refine qQ (.int .u64 (v1:Int)) ?_;refine bS (λK x=> ?_);refine dK al 143 (.tmp 2) rfl (w.heap.size) 0 rfl (ai .i64 (dw b)) _ ((At.j d.o)) d.o.inside G.o underlying143 rfl (qT b) ?_;go_simp;refine x _ ?_;clear x K;refine qQ (.int .i64 (t:Int)) ?_;refine qQ (.int .i64 (a:Int)) ?_;refine qQ (.pointer (some ⟨w.heap.size+2,a,none⟩)) ?_;refine rD (.int .u64 (av:Int)) (λs W r=>aD ?_) ?_
    .have c:=r.si bo.o bq.o;go_simp
    refine qQ (.pointer (some ⟨w.heap.size,2,none⟩)) ?_;refine bS (λK x=> ?_);refine dK al 141 (.tmp 59) rfl (w.heap.size) 2 rfl (ai .i64 (rp (SE b))) _ ((Vd d.o)) d.o.inside G.o underlying141 rfl (XF _) ?_;go_simp;refine x _ ?_;clear x K;refine rD (.int .u64 (z0:Int)) (λs W r=> ?_) ?_
    .refine fR (f:=166) (args:=(#[.agg (ai .i64 (dw b)),.int .u64 (av:Int),.agg (ai .i64 (rp (SE b)))])) fN r ?_;exact bt.o W
    refine qQ (.int .u64 (v2:Int)) ?_;refine qQ (.int .i64 (t:Int)) ?_;refine qQ (.int .i64 (u:Int)) ?_;refine qQ (.pointer (some ⟨w.heap.size+2,u,none⟩)) ?_;refine rD (.int .u64 (F:Int)) (λs W r=>aD ?_) ?_
    .have c:=r.si bp.o br.o;go_simp
    refine qQ (.int .u64 (v3:Int)) ?_;refine rD (.int .u64 (fv:Int)) (λs W r=> ?_) ?_
    .refine fR (f:=126) (args:=(#[.agg (ai .i64 (dw b)),.int .u64 (v3:Int)])) fN r ?_;exact a5.o W
    refine qQ (.pointer (some ⟨w.heap.size+2,t,none⟩)) ?_;refine ft ?_;refine yk (.int .u64 (fv:Int)) al rfl (λW r=>by have M:=C.o.et.below r C.o.et.inside;have c0:=M.int t (by rw[du];have:=o.o;omega);have f0:=M.free t;go_simp) ?_;intro W9 r;have M:=r.Qa C.o.et;rw[E.o]at M;have HS:=aa (eU.mk (aZ C.o.only r.grown) M:eU W0 W9 (w.heap.size+2) 230 .u64 _);clear r M
    go_wp2_with fail
    go_roundw
    case rel=>exact⟨t+1,by have:=o.o;omega,by go_num,HS.o⟩
    case measure=>have:=o.o;simp[intOf];omega
  .obtain rfl:t=R:=by have:=HT.o;omega
   rw[U.o]at C;have N:=C.o;have H:Z.length=80:=by rw[HZ.o];exact ze _ _
   have hr:=N.other bb.o af;have l1:=(At.j N.et).R (m:=80) (by rw[ag,H]);have r1:=(At.j N.et).row (m:=80) (by rw[ag,H]);have l2:=(At.j hr).R (m:=80) (by rw[ag];rfl);have ro:=bY .u64 Z 80 H;have HR:=aa hr;have bw:=aa H;have HB:=aa (N.below aE.o af aE.o.size);clear N hr H C
   go_wp2_with fail
   refine ej rfl underlying230 rfl YP (w.heap.size+1) (ai .u64 Z) _ rfl rfl HR.o (by rw[ag];rfl) (by rw[ag,bw.o]) ⟨rfl,?_⟩;exact HB.o.grown (aG _ _ _ _) HB.o.size (λk hk=>by injection hk with hk;omega)
end Go.Proofs.P
namespace Go.Spk
def qD(l:List Nat):List Int:=l.map λx=>((x:Nat):Int)
theorem ky(l:iT):(qD l).length=l.length:=by simp[qD]
theorem Fb(l:iT)(i:Nat)(h:i<l.length):ix (qD l) i=((l.getD i 0:Nat):Int):=by
 unfold ix qD;simp[List.getD,h]
theorem ZG{b}{et}{t}(h:t<tq b):(xg b et (tq b)).getD (tq b -1 -t) 0=sH b et t:=by
 rw[ug _ _ af];congr 1;omega
theorem Wp{b}{et}{t}(h:t<tq b):ix (OO b et) t=((sH b et t:Nat):Int):=by
 have a:tq b<=80:=by cases b<;>decide
 unfold OO;rw[mo af,aJ h]
theorem Tv(t:Nat):lO.getD t 0<18446744073709551616:=by
 have:∀x∈lO,x<18446744073709551616:=an
 by_cases h:t<lO.length
 .rw[bV,aQ h];exact this _ (nV h)
 .rw[bV,eI af];decide
theorem FL:lO.length=80:=an
theorem VL(x:Nat)(h:x<18446744073709551616):bits BinOp.xor IntKind.u64 (if IntKind.u64.signed=true then-1 else IntKind.u64.max) (x:Int)=((18446744073709551615 -x:Nat):Int):=by
 have e:(if IntKind.u64.signed=true then-1 else IntKind.u64.max)=((18446744073709551615:Nat):Int):=rfl;rw[e,u64_xor_nat _ _ an h];congr 1;have a:=BitVec.toNat_not (x:=BitVec.ofNat 64 x);rw[BitVec.not_def,BitVec.toNat_xor,BitVec.toNat_allOnes,BitVec.toNat_ofNat,ig h]at a;exact a
theorem yl{l}{m k}{f g}(hl:l.length=m)(h:∀i,i<m->l.getD i 0=if i<k then f i else g i):eH f g m k=qD l:=by
 refine sv (by rw[du,ky,hl]) λi a=> ?_;rw[du]at a;rw[mo a,Fb l i af,h i a]
theorem Xh{b}{h x}{i}(h1:i<h.length)(c:i<x.length):(List.zipWith (λa x=>jT b (a+x)) h x).getD i 0=jT b (h.getD i 0+x.getD i 0):=by grind
abbrev kP(b:Bool):List (List Value):= [[.int .i64 (jp b:Nat)],[.int .i64 (tq b:Nat)],(rp (SE b)).map (.int .i64),(rp (SF b)).map (.int .i64),(rp (Yu b)).map (.int .i64),(rp (Yv b)).map (.int .i64)]
theorem Vc(b:Bool):(kP b).flatten=(dw b).map (.int .i64):=by cases b<;>rfl
theorem vD(b:Bool):Value.agg ((((kP b).drop 0).take 6).flatten.toArray)= .agg (ai .i64 (dw b)):=by cases b<;>rfl
theorem nC{x}(h:x<18446744073709551616):∃n:Nat,Hid (n=18446744073709551615 -x)/\bits BinOp.xor IntKind.u64 (if IntKind.u64.signed=true then-1 else IntKind.u64.max) (x:Int)=(n:Int)/\n<18446744073709551616:=⟨_,aa rfl,VL x h,af⟩
end Go.Spk
namespace Go.Proofs.P
def dt(w:World):Prop:=w.rangeAt 22 0 ((qD lO).map (Value.int .u64))
theorem dt.at_{w}(h:dt w){i}(a:i<80):w.cell? ⟨22,i,none⟩=some (.int .u64 ((lO.getD i 0:Nat):Int)):=by
 have b:=h i (.int .u64 ((lO.getD i 0:Nat):Int)) (by
  rw[bi];unfold qD;rw[bi];simp[List.getD,show i<lO.length by rw [FL];exact a])
 rwa[aW]at b
theorem dt.below{w W}(h:dt w)(b:Below w.heap.size w W):dt W:=λj v c=>by
 have a:=h j v c;exact(b.cell (aH a)).trans a
theorem dt.lt{w}(h:dt w):22<w.heap.size:=aH (h.at_ (i:=0) an)
theorem dt.only{w W}{r}(h:dt w)(a:w.grownBy W r)(b:some 22≠r):dt W:=λj v c=>by
 have d:=h j v c;exact(df (a.block _ h.lt b)).trans d
theorem II(b:Bool)(c:iT)(he:mG b c)(s:bB)(G:s.size=2*jp b)(g:Nat)(w:ay)(hg:Whole w g 192 (ai .u64 (qD c)))(hw:dt w):
 Calls prog 94 #[.agg (ai .i64 (dw b)),.pointer (some ⟨g,0,none⟩),.string s] w λe w'=>e= .returned (.tuple #[])/\Whole w' g 192 (ai .u64 (qD (Ru b c (bI s))))/\w.grownBy w' (some g):=by
 have H:=aa (λW=>CN b s G W);have ab:=aa (λt=>M7 (b:=b) (cY (c8 s)) t);obtain⟨Z,hZ⟩:=eZ (OO b (bI s));have az:Z.length=80:=by rw[hZ.o];exact ze _ _
 rw[<-hZ.o]at H;have I:=ky;have aB:=wH b;have y:c.length=8:=he.length;have HW:=aa hw;have HE:=aa he;have ad:=aa (Tp b)
 have aj:=aa (show 22∉ [g]from λe=>by
  have J:=hw.at_ (i:=79) an;rw[ar.1 e,hg.at_,Array.getElem?_eq_none (by rw[ag,I,y];decide)]at J;cases J)
 have ax:tq b<=80:=by cases b<;>decide
 have HG:=aa (Hp.row hg (by rw[I,y]));clear hg hw he G;refine TC.enter func94 ntmps94 _ _ HG.o ?_;refine T.one 0 (TO.J (z:=14) (hgo:=λ_ k=>k) λbk=> ?_);refine T.fin ?_;refine TE.Ph ?_;refine TC.split 1 [1,1,3,3,3,3] (kP b) (he:=by rw[Vc];simp) (hl:=by cases b<;>rfl) ?_;refine T.qm 0 1 6 (.agg (ai .i64 (dw b))) (hv:=by exact vD b) ?_;refine T.one 2 (TO.qk (λW _=>H.o W) ?_);refine T.one 3 (TO.J (z:=80) λgz=> ?_);refine T.one 3 (TO.J (z:=8) λgx=> ?_);refine TC.inv (ι:=Nat) [(8,10),(20,95)] (λt=> [(20,.int .i64 (t:Nat))]) (λt z=>z.set 3 (bl 103 gx true (kL 192 [8]) [(qD (Fq b (tq b) (xg b (bI s) (tq b)) c t)).map (.int .u64)])) (λt=>t<=tq b) (λt=>tq b -t) 0 (ce _) ?_;intro R' t ht K l hl
 ((repeat (first|(have x:=Jm.hk hl;clear hl;obtain⟨_,rfl,hl⟩:=x)|(have x:=Jm.ha hl;clear hl;obtain⟨_,_,rfl,hl⟩:=x)));(have x:=Jm.hn hl;clear hl;subst x))
 obtain⟨B,x1,x2,C,D,x5,x6,x7,hx,M,b1,b2,b3,N,b5,b6,b7⟩:=vO (n:=tq b) (ws:=xg b (bI s) (tq b)) HE.o t
 by_cases o:t<tq b
 .have tR:(t:Int)<(tq b:Nat):=af;have aC:(t:Int)<80:=af;have tw:=wI t af;have q:Fq b (tq b) (xg b (bI s) (tq b)) c (t+1)=Li b (lO.getD t 0) (sH b (bI s) t) (Fq b (tq b) (xg b (bI s) (tq b)) c t):=by rw[Fq,ZG o]
  have CW:=aa (show(Z.map (Value.int .u64))[t]?=some (.int .u64 (sH b (bI s) t:Nat)) by
   rw[bi,aQ af];have:=Wp (b:=b) (et:=bI s) (t:=t) o;rw[<-hZ.o,ix,bV,aQ af]at this;simpa using this)
  have CK:=aa (HW.o.at_ (i:=t) af);have al:=ab.o t;have O:=Tv t;generalize sH b (bI s) t=wt at*;generalize lO.getD t 0=kt at*;have L:∀{x},x<2^jp b->x<18446744073709551616:=λh=>aL h ad.o;obtain⟨n1,d1⟩:=eZ (tL b D (Yv b));obtain⟨m1,e1⟩:=eZ (tL b B (Yu b));obtain⟨kw,dk⟩:=eZ (mQ b kt);have P:=aa (λW=>Lq b D N W);have Q:=aa (λW=>Lp b B M W);have R:=aa (λW=>xi b kt O W);rw[<-d1.o]at P;rw[<-e1.o]at Q;rw[<-dk.o]at R;obtain⟨n2,d2,f2,_⟩:=nA x7 n1;obtain⟨n3,d3,f3,k3⟩:=nN (L N) (L b5);obtain⟨n4,d4,f4,k4⟩:=nC (L N);obtain⟨n5,d5,f5,k5⟩:=nN k4 (L b6);obtain⟨n6,d6,f6,_⟩:=nX k3 k5;obtain⟨n7,d7,f7,_⟩:=nA n2 n6;obtain⟨n8,d8,f8,_⟩:=nA n7 kw;obtain⟨one,d9,f9,_⟩:=nA n8 wt;obtain⟨m2,e2,g2,l2⟩:=nN (L M) (L b1);obtain⟨m3,e3,g3,l3⟩:=nN (L M) (L b2);obtain⟨m4,e4,g4,l4⟩:=nX l2 l3;obtain⟨m5,e5,g5,l5⟩:=nN (L b1) (L b2);obtain⟨m6,e6,g6,_⟩:=nX l4 l5;obtain⟨r,e7,g7,_⟩:=nA m1 m6;obtain⟨v1,E,S,z1⟩:=nA C one;obtain⟨v2,y2,h2,z2⟩:=nA one r;have U:=aa (λW=>qW b v1 z1 W);have V:=aa (λW=>qW b v2 z2 W);rw[show jT b v1=jT b (C+one) by rw[E.out,om]]at U;rw[show jT b v2=jT b (one+r) by rw[y2.out,om]]at V
  have ao:Hid (Fq b (tq b) (xg b (bI s) (tq b)) c (t+1)= [jT b (one+r),B,x1,x2,jT b (C+one),D,x5,x6]):=aa (by
   have o1:one=VO b kt wt D x5 x6 x7:=by unfold VO;rw[<-d1.o,<-dk.o,<-d3.out,<-d4.out,<-d5.out,<-d6.out,d9.out,d8.out,d7.out,d2.out];omega
   have o2:r=ZR b B x1 x2:=by unfold ZR;rw[<-e1.o,<-e2.out,<-e3.out,<-e4.out,<-e5.out,<-e6.out];exact e7.out
   rw[q,hx,o1,o2];rfl)
  have HX:=aa hx;have F:=aa o;clear q hx o M b1 b2 b3 N b5 b6 b7 al O L k3 k4 k5 l2 l3 l4 l5 z1 z2 ht;generalize jT b (C+one)=c1 at*;generalize jT b (one+r)=c2 at*;refine TC.put 3 [[.int .u64 (B:Int),.int .u64 (x1:Int),.int .u64 (x2:Int),.int .u64 (C:Int),.int .u64 (D:Int),.int .u64 (x5:Int),.int .u64 (x6:Int),.int .u64 (x7:Int)]] (he:=by rw[HX.o];rfl) ?_;refine TC.rg [] ?_;refine T.qm 2 1 6 (.agg (ai .i64 (dw b))) (hv:=by exact vD b) ?_;refine T.qc 7 (λ_ _ W _=>P.o W) ?_;refine T.qm 22 1 6 (.agg (ai .i64 (dw b))) (hv:=by exact vD b) ?_;refine T.lw 25 _ CK.o aj.o ?_;refine T.qc 26 (λ_ _ W _=>R.o W) ?_;refine T.lx 30 2 (.int .u64 (wt:Int)) CW.o ?_;refine TC.rg [] ?_;refine T.qm 0 1 6 (.agg (ai .i64 (dw b))) (hv:=by exact vD b) ?_;refine T.qc 5 (λ_ _ W _=>Q.o W) ?_;refine TC.rg [30103000] ?_
  refine T.one 2 (TO.cpy 3 [.int .u64 (B:Int),.int .u64 (x1:Int),.int .u64 (x2:Int),.int .u64 (C:Int),.int .u64 (D:Int),.int .u64 (x5:Int),.int .u64 (x6:Int)] (λW hW j v hj=>by
   have h:=(hW.um (p:=3) rfl).1;rw[Addr.add_mid,aW,h.at_];have aE:j<7:=(aI.1 hj).1;rcases(af:j=0\/j=1\/j=2\/j=3\/j=4\/j=5\/j=6)with rfl|rfl|rfl|rfl|rfl|rfl|rfl<;>exact hj) ?_)
  refine T.qm 0 1 6 (.agg (ai .i64 (dw b))) (hv:=by exact vD b) ?_;refine T.one 5 (TO.qk (λW _=>U.o W) ?_);refine T.one 7 (TO.sx 3 ?_);refine T.qm 0 1 6 (.agg (ai .i64 (dw b))) (hv:=by exact vD b) ?_;refine T.one 4 (TO.qk (λW _=>V.o W) ?_);refine T.one 6 (TO.sx 3 ?_);exact K (t+1) _ _ F.o (dp F.o) (by rw[show((t+1:Nat):Int)=(t:Int)+1 from rfl];((repeat (first|apply Jm.known|apply Jm.any));exact Jm.nil)) ⟨[],by rw[ao.o];rfl⟩
 .obtain rfl:t=tq b:=af;obtain⟨xs,A⟩:=eZ (Fq b (tq b) (xg b (bI s) (tq b)) c (tq b));have X:mG b xs:=by rw[A.o];exact vO HE.o _
  have av:xs.length=8:=X.length;rw[<-A.o];obtain⟨Y,u⟩:=eZ (Ru b c (bI s));have hz:Y=List.zipWith (λa x=>jT b (a+x)) c xs:=by rw[u.o,A.o];rfl
  have U0:=aa (yl (l:=c) (m:=8) (k:=0) (f:=λi=>jT b (c.getD i 0+xs.getD i 0)) (g:=λi=>c.getD i 0) y (λi hi=>by rw[aq (Nat.not_lt_zero _)]));have U8:=aa (yl (l:=Y) (m:=8) (k:=8) (f:=λi=>jT b (c.getD i 0+xs.getD i 0)) (g:=λi=>c.getD i 0) (by rw[hz,List.length_zipWith,y,av];rfl) (λi hi=>by rw[aJ hi,hz,Xh af af]));rw[<-u.o];clear hz u o ht hx M b1 b2 b3 N b5 b6 b7 K X;refine go ?_;refine TC.put 0 [(eH (λi=>jT b (c.getD i 0+xs.getD i 0)) (λi=>c.getD i 0) 8 0).map (.int .u64)] (he:=by rw[U0.o]) ?_;refine TC.inv (ι:=Nat) [(11,11),(96,114)] (λt=> [(96,.int .i64 (t:Nat))]) (λt z=>z.set 0 (bl 0 g true (kL 192 [8]) [(eH (λi=>jT b (c.getD i 0+xs.getD i 0)) (λi=>c.getD i 0) 8 t).map (.int .u64)])) (λt=>t<=8) (λt=>8 -t) 0 (ce _) ?_;intro R2 t ht K l hl
  ((repeat (first|(have x:=Jm.hk hl;clear hl;obtain⟨_,rfl,hl⟩:=x)|(have x:=Jm.ha hl;clear hl;obtain⟨_,_,rfl,hl⟩:=x)));(have x:=Jm.hn hl;clear hl;subst x))
  by_cases d:t<8
  .have i8:(t:Int)<8:=af;have tw:=wI t af
   have C1:=aa (show((eH (λi=>jT b (c.getD i 0+xs.getD i 0)) (λi=>c.getD i 0) 8 t).map (Value.int .u64))[t]?=some (.int .u64 (c.getD t 0:Nat)) by
    have:=mo (f:=λi=>jT b (c.getD i 0+xs.getD i 0)) (g:=λi=>c.getD i 0) (m:=8) (k:=t) d;rw[aq (pM _),ix,bV,aQ (by rw[du];exact d)]at this;rw[bi,aQ (by rw[du];exact d)];simpa using this)
   have C2:=aa (show((qD xs).map (Value.int .u64))[t]?=some (.int .u64 (xs.getD t 0:Nat)) by
    have:=Fb xs t af;rw[ix,bV,aQ (by rw[ky];omega)]at this;rw[bi,aQ (by rw[ky];omega)];simpa using this)
   have HS:=aa (jV (f:=λi=>jT b (c.getD i 0+xs.getD i 0)) (g:=λi=>c.getD i 0) (m:=8) (k:=t) d);generalize c.getD t 0=S at*;generalize xs.getD t 0=E at*;obtain⟨v,dv,fv,zv⟩:=nA S E;have HC:=aa (λW=>qW b v zv W);rw[show jT b v=jT b (S+E) by rw[dv.out,om]]at HC;have F:=aa d;clear zv ht d;generalize jT b (S+E)=cv at*;refine go ?_;refine TC.rg [160000000] ?_;refine T.qm 2 1 6 (.agg (ai .i64 (dw b))) (hv:=by exact vD b) ?_;refine T.lx 7 0 (.int .u64 (S:Int)) C1.o ?_;refine T.lx 10 3 (.int .u64 (E:Int)) C2.o ?_;refine T.qc 12 (λ_ _ W _=>HC.o W) ?_;refine T.one 15 (TO.sx 0 (v:= .int .u64 (cv:Int)) (hlt:=by exact F.o) (hq':=by rw[<-List.map_set,HS.o]) ?_);exact K (t+1) _ _ F.o (dp F.o) (by rw[show((t+1:Nat):Int)=(t:Int)+1 from rfl];((repeat (first|apply Jm.known|apply Jm.any));exact Jm.nil)) ⟨[],rfl⟩
  .obtain rfl:t=8:=af;rw[U8.o];clear K;refine go ?_;refine TE.rt λW hW=>⟨rfl,hW.rowOf (p:=0) rfl,hW.base.byB⟩
end Go.Proofs.P
