/- Lemmas on which SessionPins rests. -/
import Derived.Deep.QuietTactic
import Derived.Test.YtcjcibnggioknaaGreatDoorZ04
set_option maxRecDepth 100000
set_option maxHeartbeats 40000000
set_option linter.unusedVariables false
open Go.RowKit Go.Spk
open Go.Proofs.Tryz
namespace Go.Proofs.P
theorem Ky(s:bB)(a:s.size<=8)(w:ay):
 Calls prog 223 #[.string s] w λe b=>e= .returned (.int .u64 (nW (bI s):Nat))/\w=b:=by
 rw[Fa _ (c8 s)];exact Om s a w
theorem mO(s:bB)(a:s.size<=8)(w:ay):
 Calls prog 223 #[.string s] w λe b=>e= .returned (.int .u64 (nW (bI s):Nat))/\b=w:=
 (Ky s a w).mono λ_ _ ⟨c,d⟩=>⟨c,d.symm⟩
theorem sF(n:Nat):bI ⟨(Lib.repeatL (ByteArray.mk #[0]).data.toList n).toArray⟩=List.replicate n 0:=by
 induction n with
 |zero=>rfl
 |succ n a=>
  rw[List.replicate_succ,<-a]
  rfl
def E5(n i:Nat):List Int:=jI n i++List.replicate (16 -i) 0
theorem Hb(n i:Nat)(h:i<=16):(E5 n i).length=16:=by unfold E5;rw[am,eJ,eh];omega
theorem Oe(n:Nat):E5 n 0=List.replicate 16 0:=rfl
theorem Rh(n:Nat):E5 n 16=jI n 16:=by unfold E5;simp
theorem Ri(n i:Nat)(h:i<16):(E5 n i).set i ((n/256^i %256:Nat):Int)=E5 n (i+1):=by
 unfold E5;rw[List.set_append_right _ _ (by rw[eJ];exact ak _),eJ,Nat.sub_self,show 16 -i=(16 -(i+1))+1 by omega,List.replicate_succ,List.set_cons_zero,yI,bf]
 rfl
theorem Uj(n i:Nat)(h:i<8):w0 n/2^(8*i) %256=n/256^i %256:=by
 unfold w0;have:i=0\/i=1\/i=2\/i=3\/i=4\/i=5\/i=6\/i=7:=af;rcases this with rfl|rfl|rfl|rfl|rfl|rfl|rfl|rfl<;>omega
theorem Uk(n i:Nat)(h:8<=i)(a:i<16):w1 n/2^(8*(i -8)) %256=n/256^i %256:=by
 unfold w1;have:i=8\/i=9\/i=10\/i=11\/i=12\/i=13\/i=14\/i=15:=af;rcases this with rfl|rfl|rfl|rfl|rfl|rfl|rfl|rfl<;>omega
theorem xU(a k:Nat):(a:Int)/2^k %256=((a/2^k %256:Nat):Int):=bj
theorem IR(A a b:Nat):(yA A a b).length=5:=rfl
theorem gQ(s:bB)(k:Nat):bI (s.extract k s.size)=(bI s).drop k:=by
 simp[bI];rw[bL bj]
theorem oh(s:bB)(a b:Nat):bI (s.extract a b)=((bI s).drop a).take (b -a):=by simp[bI]
theorem mv{a b}(h:bI a=bI b):a=b:=by rw[<-fq a,h,fq]
theorem D7(A:Nat)(f ws:aR)(k d e b c a:Nat)(h:d+18446744073709551616*e=q6 f)(r:d<1152921504606846976)(s:e<1152921504606846976)(i:A<BB)(hm:A %PP=Ao (q6 f) ws k)
 (j:Wd b) (l:Wd c) (g:a<=1) (m:tj b c a=(nb (vh ws k)).toNat):
 (
  A+tj b c a)/18446744073709551616/18446744073709551616<8/\Bs ((A+tj b c a)*(d+18446744073709551616*e))<BB/\
  Bs ((A+tj b c a)*(d+18446744073709551616*e)) %PP=Ao (q6 f) ws (k+1):=by
 have n:tj b c a<680564733841876926926749214863536422912:=by unfold tj Wd at*;omega
 have o:d+18446744073709551616*e<21267647932558653966460912964485513216:=af;obtain⟨p,q⟩:=Sy A (tj b c a) (d+18446744073709551616*e) i n o;refine⟨p,q,?_⟩;rw[h];exact OK A _ _ ws k hm m
theorem K9(a:aR)(s:bB)(hk:a.length=32)(bk:jr a)(hs:s.size<=100000000)(w:ay):
 Calls prog 201 #[.agg (ai .u8 a),.string s] w λe w'=>e= .returned (.agg (ai .u8 (Ir a (bI s))))/\Below w.heap.size w w':=by
 have e1:(prog.info? 22).map (·.size)=some (ai .u8 a).size:=by rw[ag,hk];kernel_rfl
 have H1:=aa e1;have HK:=aa hk;have BK:=aa bk;clear e1 hk bk
 go_enter func201,ntmps201
 go_wp2_with fail
 generalize hW:(w.alloc _).alloc _=V
 have aF:Below w.heap.size w V/\Whole V w.heap.size 22 (ai .u8 a)/\Whole V (w.heap.size+1) 108 (ai .u8 (List.replicate 16 0))/\w.heap.size+1<V.heap.size:=by
  subst hW;exact⟨by go_grown,(Whole.new rfl rfl).alloc _,Whole.new bj rfl,bj⟩
 clear hW
 have be:∀q,q<32->V.cell? ⟨w.heap.size,0+q,none⟩=some (.int .u8 (a.getD q 0)):=λq hq=>by
  rw[aW,aF.2.1.at_,iP .u8 a q (by rw[HK.o];exact hq)];rfl
 rw[bv (P:=prog) V 99 5 underlying99 underlying5 w.heap.size 0 32 32 a HK.o be 9 underlying9];simp only[Result.andThen];rw[tm];clear be;have I:=aa aF;clear aF;obtain⟨key,B⟩:=aP (strOfNums a);rw[<-B];have J:bI key=a:=by rw[B,cJ (cY BK.o)]
 have bg:key.size=32:=by rw[<-aj,J,HK.o]
 obtain⟨k0,aG⟩:=aP (key.extract 0 8);obtain⟨k1,E⟩:=aP (key.extract 8 16);have d:bI k0=a.take 8:=by rw[aG,<-J];simp[bI]
 have f:bI k1=(a.drop 8).take 8:=by rw[E,<-J];simp[bI]
 have z0:k0.size=8:=by rw[<-aj,d,aO,HK.o];rfl
 have X:k1.size=8:=by rw[<-aj,f,aO,bK,HK.o];rfl
 obtain⟨l,ab⟩:=aP (nW (Y7 (a.take 8)));obtain⟨o,ad⟩:=aP (nW (YM ((a.drop 8).take 8)))
 have c0:bits .and .u64 (nW (bI k0):Nat) 1152921487695413247=(l:Int):=by
  have h:=lz (nW (bI k0)) 1152921487695413247 (y5 _ (c8 k0) (by rw[aj,z0];decide)) an;rw[Qg _ (c8 k0) (by rw[aj,z0]),d,<-ab]at h;rw[d];exact h
 have c1:bits .and .u64 (nW (bI k1):Nat) 1152921487695413244=(o:Int):=by
  have h:=lz (nW (bI k1)) 1152921487695413244 (y5 _ (c8 k1) (by rw[aj,X];decide)) an;rw[Qf _ (c8 k1) (by rw[aj,X]),f,<-ad]at h;rw[f];exact h
 have hR:l+18446744073709551616*o=q6 a:=by rw[ab,ad,<-Gq a BK.o HK.o]
 have b0:l<1152921504606846976:=by rw[ab];exact Y8 _ (oP BK.o _)
 have b1:o<1152921504606846976:=by rw[ad];exact YN _ (oP (pW BK.o _) _)
 have cu:=aa B;have bh:=aa J;have aK:=aa bg;have HR:=aa hR;have B0:=aa b0;have B1:=aa b1;have Z0:=aa z0;have Z1:=aa X;have C0:=aa c0;have C1:=aa c1;have E0:=aa aG.symm;have E1:=aa E.symm;clear B J bg hR b0 b1 z0 X c0 c1 aG E d f ab ad;have i8:(8:Int)<=key.size:=by have:=aK.o;omega
 have K:(16:Int)<=key.size:=by have:=aK.o;omega
 have e0:=E0.o;have e1:=E1.o;have c0:=C0.o;have c1:=C1.o
 go_wp2_with fail
 refine jE 10 al al ?_;simp only[List.take_succ_cons,List.take_zero,List.drop_succ_cons,List.drop_zero];change wpStill _ _ V.drew _ _ _
 iterate 2 still_step
 still_call (mO k0 (by rw[Z0.o];decide) _)
 iterate 3 still_step
 still_call (mO k1 (by rw[Z1.o];decide) _)
 iterate 3 still_step
 refine wpStill_nil ?_;change wpList _ _ _ _ _ V.drew
 go_wp2_with fail
 refine aU (λW=>Below w.heap.size w W/\Whole W (w.heap.size+1) 108 (ai .u8 (List.replicate 16 0))/\Whole W V.heap.size 327 (ai .u64 (yA 0 l o)))
  ⟨(I.o.1.alloc I.o.1.size _).trans (bA (aw _ _) 1:Below _ _ _),(I.o.2.2.1.alloc _).drew,(Whole.new (cs':=_) rfl rfl).drew⟩ ?_
 obtain⟨g,hg⟩:=aP (V.heap.size);have bl:w.heap.size+1<g:=by rw[hg];exact I.o.2.2.2
 rw[<-hg];have aS:=aa bl;clear hg bl I c0 c1 e0 e1 i8 K;intro W1 bm;have ao:=aa bm;clear bm
 go_loopw [1] (λv wr=> ∃k A:Nat,16*k<=s.size/\v= .string (s.extract (16*k) s.size)/\A %PP=Ao (q6 a) (bI s) k/\A<BB/\W1.grownBy wr (some g)/\Whole wr g 327 (ai .u64 (yA A l o))) (λv _=>match v with| .string t=>t.size|_=>0)
 case atStart=>exact⟨0,0,af,by rw[show s.extract (16*0) s.size=s from mv (by rw[gQ];rfl)],by simp[Ao],by decide+kernel,ez _ _,ao.o.2.2⟩
 case round=>
  obtain⟨k,A,hk,rfl,hm,bn,bo,hw⟩:=hrel;obtain⟨t,ht⟩:=aP (s.extract (16*k) s.size);have aV:bI t=(bI s).drop (16*k):=by rw[ht,gQ]
  have av:t.size=s.size -16*k:=by rw[<-aj,aV,bK,aj]
  rw[<-ht];have HM:=aa hm;have aX:=aa bn;have aY:=aa bo;have HW:=aa hw;have HT:=aa ht;have ax:=aa aV;have cz:=aa av;clear hm bn bo hw ht aV
  by_cases bp:16<=t.size
  .have K:(16:Int)<=t.size:=af;have i8:(8:Int)<=t.size:=af;obtain⟨G,r⟩:=aP (t.extract 0 8);obtain⟨H,u⟩:=aP (t.extract 8 16);have d:bI G=((bI s).drop (16*k)).take 8:=by rw[r,oh,ax.o];rfl
   have f:bI H=(((bI s).drop (16*k)).drop 8).take 8:=by rw[u,oh,ax.o]
   have z0:G.size<=8:=by rw[<-aj,d,aO];omega
   have X:H.size<=8:=by rw[<-aj,f,aO];omega
   have hN:tj (nW (bI G)) (nW (bI H)) 1=(nb (vh (bI s) k)).toNat:=by
    rw[d,f];exact KV _ _ (c8 s) (by rw[aj];omega)
   have x:=y5 _ (c8 G) (by rw[aj];exact z0);have y:=y5 _ (c8 H) (by rw[aj];exact X);obtain⟨q1,q2,q3⟩:=D7 A a (bI s) k l o _ _ 1 HR.o B0.o B1.o aX.o HM.o x y an hN;have a0:t.extract 16 t.size=s.extract (16*(k+1)) s.size:=mv (by rw[gQ,gQ,ax.o,List.drop_drop,Nat.mul_add]);have bq:(s.extract (16*(k+1)) s.size).size=t.size -16:=by rw[<-aj,gQ,bK,aj];omega
   have E:16*(k+1)<=s.size:=af;have Z0:=aa z0;have Z1:=aa X;have Q:=aa (And.intro q1 (And.intro q2 q3));have WW:=aa (And.intro x y);have cd:=aa bq;have E0:=aa r.symm;have E1:=aa u.symm;have cf:=aa a0;have cg:=aa E;have ch:=aa bp;clear d f z0 X hN x y q1 q2 q3 a0 bq r u E av bp;have e0:=E0.o;have e1:=E1.o;have a0:=cf.o
   go_wp2_with fail
   refine jE 7 al al ?_;simp only[List.take_succ_cons,List.take_zero,List.drop_succ_cons,List.drop_zero];change wpStill _ _ wr.drew _ _ _
   iterate 3 still_step
   still_call (mO G Z0.o _)
   iterate 2 still_step
   still_call (mO H Z1.o _)
   refine wpStill_nil ?_;change wpList _ _ _ _ _ wr.drew
   go_wp2_with fail
   refine(qo g _ A l o _ _ 1 WW.o.1 WW.o.2 an wr.drew HW.o.drew).mono ?_;rintro e W2 ⟨rfl,U2⟩;have br:=aa U2;clear U2
   go_wp2_with fail
   refine(By g _ _ l o Q.o.1 B0.o B1.o W2 br.o.et).mono ?_;rintro e W3 ⟨rfl,bs,bt⟩;have ci:=aa bs;have ck:=aa bt;clear bs bt
   go_wp2_with fail
   go_roundw
   case rel=>exact⟨k+1,_,cg.o,rfl,Q.o.2.2,Q.o.2.1,aZ (aZ (iq aY.o) br.o.only) ci.o,ck.o⟩
   case measure=>simp[cd.o];have:=ch.o;omega
  .have K:¬(16:Int)<=t.size:=af;have bw:=HR.o
   by_cases L:t.size=0
   case' pos=>
    have cl:t={data:= #[]}:=mv (o5 (by rw[aj];exact L));have M:k=((bI s).length+15)/16:=by rw[aj];omega
    obtain⟨A',az⟩:=aP A;have a1:=aa (by rw[<-M,az];exact HM.o:A' %PP=Ao (q6 a) (bI s) (((bI s).length+15)/16));have C:=aa (by rw[az];exact aX.o:A'<BB);have O:=aa (by rw[az];exact HW.o:Whole wr g 327 (ai .u64 (yA A' l o)));have D:=aa (show W1.grownBy wr (some g)from aY.o);subst cl;clear az M L av bw K;have K:¬(16:Int)<=((0:Nat):Int):=af
    go_wp2_with fail
    generalize wr=W' at O D⊢
   case' neg=>
    have bx:¬t.toList= []:=λh=>L (by rw[nM]at h;have:=aA List.length h;simpa using this);have cv:t.toList.isEmpty=false:=by simpa using bx
    have cx:(!t.toList.isEmpty)=true:=by simpa using bx
    have cy:=OZ (b:={data:= #[]}) (λh:t={data:= #[]}=>L (by rw[h];rfl));obtain⟨c,hc⟩:∃c:Nat,c=15 -t.size:=⟨_,rfl⟩;have cA:(15:Int) -t.size=c:=af;have X:(ByteArray.mk #[1]).size=1:=rfl;have cB:t.size+(ByteArray.mk #[1]).size<=100:=af;have M:k+1=((bI s).length+15)/16:=by rw[aj];omega
    obtain⟨zs,a2⟩:=aP ((⟨(Lib.repeatL (ByteArray.mk #[0]).data.toList c).toArray⟩:ByteArray));have a3:bI zs=List.replicate c 0:=by rw[a2,sF]
    have bz:zs.size=c:=by rw[<-aj,a3,eh]
    obtain⟨Y,aB⟩:=aP (t++ByteArray.mk #[1]++zs);have a4:bI Y=(bI t++ [1])++List.replicate c 0:=by rw[aB,gP,gP,a3];rfl
    have bC:Y.size=16:=by rw[<-aj,a4,am,am,eh,aj];simp;omega
    have R:(t++ByteArray.mk #[1]).size+zs.size<=200:=by rw[aN,bz];omega
    obtain⟨G,r⟩:=aP (Y.extract 0 8);obtain⟨H,u⟩:=aP (Y.extract 8 Y.size);have d:bI G=(bI Y).take 8:=by rw[r,oh];rfl
    have f:bI H=(bI Y).drop 8:=by rw[u,gQ]
    have y0:G.size<=8:=by rw[<-aj,d,aO];omega
    have y1:H.size<=8:=by rw[<-aj,f,bK,aj];omega
    have hN:tj (nW (bI G)) (nW (bI H)) 0=(nb (vh (bI s) k)).toNat:=by
     rw[d,f,DV (bI Y) (c8 Y) (by rw[aj,bC]) c _ a4];unfold vh;rw[ax.o,bL (by rw[bK,aj];omega)]
    have x:=y5 _ (c8 G) (by rw[aj];exact y0);have y:=y5 _ (c8 H) (by rw[aj];exact y1);obtain⟨q1,q2,q3⟩:=D7 A a (bI s) k l o _ _ 0 HR.o B0.o B1.o aX.o HM.o x y an hN;rw[M]at q3;have Y0:=aa y0;have Y1:=aa y1;have Q1:=aa q1;have C:=aa q2;have a1:=aa q3;have WW:=aa (And.intro x y);have E0:=aa r.symm;have E1:=aa u.symm;have cm:=aa a2;have cn:=aa aB.symm;have bF:=aa R;have HC:=aa hc;have I8:=aa (af:(8:Int)<=Y.size);clear bw hc M a2 a3 bz aB a4 bC R r u d f y0 y1 hN x y q1 q2 q3 av L X
    go_wp2_with fail
    refine(strings_Repeat ⟨#[0]⟩ c wr (dp HC.o) (by have:=HC.o;show 1*c<=_;omega)).mono ?_;rw[<-cm.o];rintro e W2 ⟨rfl,z⟩;have bG:=aa (aZ aY.o (bR z _));have co:=aa (HW.o.below z HW.o.inside);have R:=bF.o;have aB:=cn.o;have i8:=I8.o;have e0:=E0.o;have e1:=E1.o;clear z
    go_wp2_with fail
    refine jE 7 al al ?_;simp only[List.take_succ_cons,List.take_zero,List.drop_succ_cons,List.drop_zero];change wpStill _ _ W2.drew _ _ _
    iterate 3 still_step
    still_call (mO G Y0.o _)
    iterate 2 still_step
    still_call (mO H Y1.o _)
    refine wpStill_nil ?_;change wpList _ _ _ _ _ W2.drew
    go_wp2_with fail
    refine(qo g _ A l o _ _ 0 WW.o.1 WW.o.2 an W2.drew co.o.drew).mono ?_;rintro e W3 ⟨rfl,U3⟩;have bM:=aa U3;clear U3
    go_wp2_with fail
    refine(By g _ _ l o Q1.o B0.o B1.o W3 bM.o.et).mono ?_;rintro e W4 ⟨rfl,bO,bS⟩;have O:=aa bS;have D:=aa (aZ (aZ (iq bG.o) bM.o.only) bO);clear bO bS
    go_wp2_with fail
    generalize Bs ((A+tj (nW (bI G)) (nW (bI H)) 0)*(l+18446744073709551616*o))=A' at a1 C O;generalize W4=W' at O D⊢
   all_goals
    refine(IL g _ A' l o (Pm A' C.o) W' O.o).mono ?_;rw[Rl A' C.o,a1.o];rintro e W5 ⟨rfl,U5⟩;obtain⟨k2,a5⟩:=aP (key.extract 16 24);obtain⟨k3,a6⟩:=aP (key.extract 24 key.size);have z:bI k2=(a.drop 16).take 8:=by rw[a5,oh,bh.o]
    have a7:bI k3=(a.drop 16).drop 8:=by rw[a6,gQ,bh.o,List.drop_drop]
    have y2:k2.size<=8:=by rw[<-aj,z,aO];omega
    have y3:k3.size<=8:=by rw[<-aj,a7,bK,bK,HK.o];decide
    have bU:=y5 _ (c8 k2) (by rw[aj];exact y2);have bX:=y5 _ (c8 k3) (by rw[aj];exact y3)
    have hN:Ao (q6 a) (bI s) (((bI s).length+15)/16)+tj (nW (bI k2)) (nW (bI k3)) 0=DX a (bI s):=by
     unfold DX;congr 1;rw[z,a7,DV (a.drop 16) (pW BK.o _) (by rw[bK,HK.o]) 0 (a.drop 16) bj]
    have Y2:=aa y2;have Y3:=aa y3;have bY:=aa (And.intro bU bX);have HN:=aa hN;have a8:=aa U5;have j1:(24:Int)<=key.size:=by have:=aK.o;omega
    have e2:=a5.symm;have e3:=a6.symm;clear a5 a6 z a7 y2 y3 bU bX hN U5
    go_wp2_with fail
    refine jE 7 al al ?_;simp only[List.take_succ_cons,List.take_zero,List.drop_succ_cons,List.drop_zero];change wpStill _ _ W5.drew _ _ _
    iterate 3 still_step
    still_call (mO k2 Y2.o _)
    iterate 2 still_step
    still_call (mO k3 Y3.o _)
    refine wpStill_nil ?_;change wpList _ _ _ _ _ W5.drew;clear e2 e3 j1
    go_wp2_with fail
    refine(qo g _ _ l o _ _ 0 bY.o.1 bY.o.2 an W5.drew a8.o.et.drew).mono ?_;rw[HN.o];rintro e W6 ⟨rfl,U6⟩;have S:=aZ (aZ D.o (iq a8.o.only)) U6.only;have a9:=aa U6.et;have ba:=aa (ao.o.1.grown S ao.o.1.size (λq hq=>by injection hq with hq;have:=aS.o;omega));have bZ:=aa (ao.o.2.1.only S (bE (dp aS.o)));clear S U6
    go_wp2_with fail
    obtain⟨go,aC⟩:=aP (W6.heap.size);have l1:g<go:=by rw[aC];exact a9.o.inside
    have l2:w.heap.size+1<go:=by have:=aS.o;omega
    refine aU (λW=>Below w.heap.size w W/\Whole W (w.heap.size+1) 108 (ai .u8 (List.replicate 16 0))/\Whole W g 327 (ai .u64 (yA (DX a (bI s)) l o))/\Whole W go 108 (ai .u8 (List.replicate 16 0)))
     ⟨ba.o.alloc ba.o.size _,bZ.o.alloc _,a9.o.alloc _,Whole.new aC.symm rfl⟩ ?_
    rw[<-aC];have L1:=aa l1;have L2:=aa l2;clear ba bZ a9 aC l1 l2 a8;intro W7 ⟨b2,b3,bb,b4⟩;have j:jI (DX a (bI s)) 16=Ir a (bI s):=rfl;obtain⟨N,b5⟩:=aP (DX a (bI s));rw[<-b5]at bb j;have cp:=aa j;have b6:=aa b2;have cq:=aa b3;have b7:=aa bb;have cr:=aa b4;clear b5 j b2 b3 bb b4
    go_loopw [67] (λi wr=> ∃n:Nat,n<=16/\i= .int .i64 n/\eU W7 wr go 108 .u8 (E5 N n)) (λi _=>16 -(intOf i).toNat)
    case atStart=>exact⟨0,af,rfl,by rw[Oe];exact eU.start cr.o⟩
    case round=>
     obtain⟨n,hn,rfl,U⟩:=hrel;have b8:=Hb N n hn;have HU:=aa U;have cs:=aa b8;clear U b8
     by_cases h1:n<16
     .have i1:(n:Int)<16:=af;have cO:=HU.o.cell n (by rw[cs.o];exact h1);have fO:=HU.o.frozen n;have b9:=Ri N n h1;have ca:=aa b9;clear b9
      by_cases h8:n<8
      .have cw:_root_.Go.World.cell? wr ⟨g,0,none⟩=some (.int .u64 (w0 N:Nat)):=(HU.o.other b7.o (dp L1.o)).int 0 (by rw[IR];decide);have d1:(n:Int)/8=0:=af;have d2:(n:Int) %8=n:=af;have F:=Uj N n h8;have bc:=aa F;clear F
       go_wp2_with fail
       go_roundw
       case rel=>exact⟨n+1,af,by go_num,by rw[xU,bc.o,<-ca.o];exact HU.o.set n _⟩
       case measure=>simp[intOf];omega
      .have cw:_root_.Go.World.cell? wr ⟨g,1,none⟩=some (.int .u64 (w1 N:Nat)):=(HU.o.other b7.o (dp L1.o)).int 1 (by rw[IR];decide);obtain⟨m,hm⟩:=aP (n -8);have d1:(n:Int)/8=1:=af;have d2:(n:Int) %8=m:=af;have F:=Uk N n af h1;rw[<-hm]at F;have d3:m<8:=af;have bc:=aa F;clear F hm
       go_wp2_with fail
       go_roundw
       case rel=>exact⟨n+1,af,by go_num,by rw[xU,bc.o,<-ca.o];exact HU.o.set n _⟩
       case measure=>simp[intOf];omega
     .obtain rfl:n=16:=af;have ho:=HU.o.et;rw[Rh,cp.o]at ho;have cb:=HU.o.below b6.o (dp L2.o) b6.o.size;have cc:=HU.o.other cq.o (dp L2.o);obtain⟨Z,hZ⟩:=aP (Ir a (bI s));have bd:Z.length=16:=by rw[hZ];exact eJ _ _
      rw[<-hZ]at ho;have aE:(prog.info? 108).map (·.size)=some (ai .u8 Z).size:=by rw[ag,bd];kernel_rfl
      have HZ:=aa hZ;have HS:=aa aE;have ct:=aa bd;clear hZ aE bd
      go_wp2_with (first
       |(refine wpList_load_row rfl 108 (.tmp 8) rfl _ rfl 108 (ai .u8 Z) (0,0) _ ho underlying108 rfl HS.o ?_)
       |(refine cQ rfl 108 (.tmp 4) (.tmp 85) rfl (w.heap.size+1) (ai .u8 Z) rfl rfl 108 _ cc HS.o (by simp[ag,ct.o]) (fL _ _) ?_))
      refine cI (im (fn:=f201) (p:=4) rfl _ _ (w.heap.size+1) 108 (ai .u8 Z) (0,0) _ rfl (Whole.row cc) underlying108 rfl HS.o) rfl ⟨by rw[HZ.o],?_⟩;exact cb.grown (bW wr (w.heap.size+1) _) cb.size (λk hk=>by injection hk with hk;omega)
theorem vi(s:bB)(q:s.size<=10000000)(w:ay):
 Calls prog 202 #[.string s] w λe n=>e= .returned (.string (strOfNums (vc (bI s))))/\Below w.heap.size w n:=by
 obtain⟨c,i⟩:=aP (KJ s.size);have f:c<=16:=by rw[i];unfold KJ;omega
 have r:(16 -(s.size:Int) %16) %16=c:=by rw[i];unfold KJ;omega
 obtain⟨j,b⟩:=aP ((⟨(Lib.repeatL (ByteArray.mk #[0]).data.toList c).toArray⟩:ByteArray));have d:bI j=List.replicate c 0:=by rw[b,sF]
 have k:j.size=c:=by rw[<-aj,d,eh]
 have a:s++j=strOfNums (vc (bI s)):=by
  apply mv;rw[gP,d,cJ (xX _ (cY (c8 s)))];unfold vc;rw[aj,i]
 have o:s.size+j.size<=10000100:=af;have l:=aa b;have g:=aa a;have h:=aa f;clear i b d k a f
 go_enter func202,ntmps202
 go_wp2_with fail
 refine(strings_Repeat ⟨#[0]⟩ c w (dp h.o) (by have:=h.o;show 1*c<=_;omega)).mono ?_;rw[<-l.o];rintro e w1 ⟨rfl,m⟩;have p:=aa m;clear m
 go_wp2_with fail
 go_ret
 exact⟨by rw[<-g.o];rfl,p.o⟩
def Gr(n i:Nat):List Int:=jI n i++List.replicate (8 -i) 0
theorem Gs(n i:Nat)(h:i<=8):(Gr n i).length=8:=by unfold Gr;rw[am,eJ,eh];omega
theorem Qk(n:Nat):Gr n 8=jI n 8:=by unfold Gr;simp
theorem Ql(n i:Nat)(h:i<8):(Gr n i).set i ((n/256^i %256:Nat):Int)=Gr n (i+1):=by
 unfold Gr;rw[List.set_append_right _ _ (by rw[eJ];exact ak _),eJ,Nat.sub_self,show 8 -i=(8 -(i+1))+1 by omega,List.replicate_succ,List.set_cons_zero,yI,bf]
 rfl
theorem PY(n i:Nat):n/2^(8*i) %256=n/256^i %256:=by
 rw[Nat.pow_mul]
theorem wW(n:Nat)(x:n<=10000000)(w:ay):
 Calls prog 203 #[.int .i64 n] w λe s=>e= .returned (.string (strOfNums (jI n 8)))/\Below w.heap.size w s:=by
 have y:IntKind.u64.wrap (n:Int)=n:=by rw[bH];omega
 go_enter func203,ntmps203
 go_wp2_with fail
 go_outline
 refine aU (λW=>Below w.heap.size w W/\Whole W w.heap.size 329 (ai .u8 (List.replicate 8 0))) ⟨(aw _ w).alloc (ak _) _,Whole.new rfl rfl⟩ ?_;intro t ⟨a,b⟩;have c:=aa a;have h:=aa b;clear a b
 go_loopw [5] (λi wr=> ∃k:Nat,k<=8/\i= .int .i64 k/\eU t wr w.heap.size 329 .u8 (Gr n k)) (λi _=>8 -(intOf i).toNat)
 case atStart=>exact⟨0,af,rfl,eU.start h.o⟩
 case round=>
  obtain⟨k,u,rfl,U⟩:=hrel;have d:=aa U;have j:=aa (Gs n k u);clear U
  by_cases p:k<8
  .have z:(k:Int)<8:=af;have A:=d.o.cell k (by rw[j.o];exact p);have B:=d.o.frozen k;have l:=aa (Ql n k p)
   go_wp2_with fail
   go_roundw
   case rel=>exact⟨k+1,af,by go_num,by rw[xU,PY,<-l.o];exact d.o.set k _⟩
   case measure=>simp[intOf];omega
  .obtain rfl:k=8:=af;have m:=d.o.et;rw[Qk]at m;have f:=d.o.below c.o (ak _) c.o.size
   have g:∀q,q<8->wr.cell? ⟨w.heap.size,0+q,none⟩=some (.int .u8 ((jI n 8).getD q 0)):=λq v=>by
    rw[aW,m.at_,iP .u8 _ q (by rw[eJ];exact v)];rfl
   have r:=bv (P:=prog) wr 99 5 underlying99 underlying5 w.heap.size 0 8 8 (jI n 8) (eJ _ _) g 9 underlying9;have o:=aa f;clear g m f
   go_wp2_with fail
   go_ret
   exact⟨rfl,o.o⟩
def qN(ps qs:List Int):Nat->Nat
 |0=>0
 |k+1=>qN ps qs k|||((ix ps k).toNat^^^(ix qs k).toNat)
theorem Qs(ps qs:aR)(a:jr ps)(b:jr qs)(k:Nat):qN ps qs k<256:=by
 induction k with
 |zero=>simp[qN]
 |succ k c=>
  have e:=a k;have f:=b k;have d:(ix ps k).toNat^^^(ix qs k).toNat<2^8:=o7 af af;exact Nat.or_lt_two_pow (n:=8) c d
theorem JP(ps qs:aR)(a:jr ps)(b:jr qs)(k:Nat):qN ps qs k=0↔ ∀i,i<k->ix ps i=ix qs i:=by
 induction k with
 |zero=>simp[qN]
 |succ k c=>
  rw[qN,Nat.or_eq_zero_iff,c];have j:=a k;have l:=b k;constructor
  .rintro⟨h,d⟩ i f
   by_cases e:i=k
   .subst e;have g:((ix ps i).toNat^^^(ix qs i).toNat)^^^(ix qs i).toNat=(ix ps i).toNat:=by rw[Nat.xor_assoc,Nat.xor_self,Nat.xor_zero]
    rw[d,Nat.zero_xor]at g;omega
   .exact h i af
  .intro h;refine⟨λi f=>h i af,?_⟩;rw[h k af];exact Nat.xor_self _
theorem SH(a b:bB)(h:a.size=b.size):(qN (bI a) (bI b) a.size=0)↔a=b:=by
 rw[JP _ _ (c8 a) (c8 b)];constructor
 .intro d;exact mv (sv (by rw[aj,aj,h]) λi c=>d i (by rwa[aj]at c))
 .intro e i c;rw[e]
theorem Ln(a b:bB)(z:a.size<=1000000000)(w:ay):
 Calls prog 178 #[.string a,.string b] w λe D=>e= .returned (.bool (decide (a=b)))/\ ∃m,D=w.drewN m:=by
 have p:∀(n:Nat) (h:n<a.size),((a[n]'h).toNat:Int)=ix (bI a) n:=λn h=>(AV a n h).symm;have q:∀(n:Nat) (h:n<b.size),((b[n]'h).toNat:Int)=ix (bI b) n:=λn h=>(AV b n h).symm
 by_cases l:a.size=b.size
 .obtain⟨n,r⟩:=aP (a.size)
  have e:decide (a=b)=decide (qN (bI a) (bI b) n=0):=by
   rw[Bool.eq_iff_iff];simp only[decide_eq_true_eq];rw[r];exact(SH a b l).symm
  rw[e];obtain⟨R,s⟩:=aP (qN (bI a) (bI b) n);rw[<-s];have A:=aa s;clear s;have E:n<=1000000000:=af;have J:a.size=n:=r.symm;clear z;have K:b.size=n:=af;clear e r l
  go_enter func178,ntmps178
  go_wp2_with fail
  go_loopw [5,14] (λx i wr=> ∃k m:Nat,k<=n/\i= .int .i64 k/\x= .int .u8 (qN (bI a) (bI b) k:Nat)/\wr=w.drewN m) (λ_ i _=>n -(intOf i).toNat)
  case atStart=>exact⟨0,0,af,rfl,rfl,rfl⟩
  case round=>
   obtain⟨k,m,L,rfl,rfl,rfl⟩:=hrel
   by_cases M:k<n
   .have F:(k:Int)<n:=af;have t:=c8 a k;have u:=c8 b k;have B:=Qs (bI a) (bI b) (c8 a) (c8 b) k;have C:(ix (bI a) k).toNat^^^(ix (bI b) k).toNat<256:=o7 (n:=8) af af;have G:=u8_xor (ix (bI a) k) (ix (bI b) k) af af af af;have o:=u8_or_nat (qN (bI a) (bI b) k) ((ix (bI a) k).toNat^^^(ix (bI b) k).toNat) B C;change _=((qN (bI a) (bI b) (k+1):Nat):Int)at o;generalize(ix (bI a) k).toNat^^^(ix (bI b) k).toNat=x at G o;clear C t u;obtain⟨d,g⟩:=aP (qN (bI a) (bI b) k);obtain⟨N,c⟩:=aP (qN (bI a) (bI b) (k+1));rw[<-g]at o⊢;rw[<-c]at o;have H:=aa c;clear B g c
    go_wp2_with fail
    go_quiet (fail)
    go_wp2_with fail
    go_roundw
    case rel=>exact⟨k+1,m+nq,af,by go_num,by rw[H.o],rfl⟩
    case measure=>simp[intOf];omega
   .obtain rfl:k=n:=af;rw[<-A.o]
    by_cases v:R=0
    .have I:=aa v;clear A;subst v;rw[show((0:Nat):Int)=0 from rfl]
     go_wp2_with fail
     go_ret
     exact⟨bj,m,rfl⟩
    .have f:((R:Int)==0)=false:=by
      have:¬(R:Int)=0:=af;simpa using this
     have j:decide (R=0)=false:=by simpa using v
     have y:=aa j;clear j
     go_wp2_with fail
     go_ret
     exact⟨by rw[y.o];rfl,m,rfl⟩
 .have f:decide (a=b)=false:=by
   simp only[decide_eq_false_iff_not];intro e;exact l (by rw[e])
  rw[f];have F:¬(a.size:Int)=b.size:=af;clear z f l p q
  go_enter func178,ntmps178
  go_wp2_with fail
  go_ret
  exact⟨rfl,0,rfl⟩
def EP(c:Int)(a b:Value):Value:=if c=2 then a else if c=5 then b else .nilIface
theorem KD(c d:aR)(s a:bB)(n:Nat)(k:s.size=n+16)(A T:bB)(g:A=s.extract 0 n)(i:T=s.extract n s.size):
 sY c d (bI s) (bI a)=(if strOfNums (rK c d (bI A) (bI a))=T then qt c 1 d (bI A)else[])/\
 sX c d (bI s) (bI a)=(if strOfNums (rK c d (bI A) (bI a))=T then 0 else 5):=by
 have e:bI A=(bI s).take n:=by rw[g];simp[bI]
 have j:bI T=(bI s).drop n:=by rw[i,gQ]
 have f:¬s.size<16:=af
 have b:Dt c d (bI s) (bI a)=decide (strOfNums (rK c d (bI A) (bI a))=T):=by
  unfold Dt;rw[aj,show s.size -16=n by omega,<-e,<-j];rw[Bool.eq_iff_iff];simp only[beq_iff_eq,decide_eq_true_eq];constructor
  .intro h;rw[h,fq]
  .intro h;rw[<-h,cJ (DL _ _ _ _)]
 constructor
 .unfold sY;rw[aj,aq f,b,show s.size -16=n by omega,<-e];simp only[decide_eq_true_eq]
 .unfold sX;rw[aj,aq f,b];simp only[decide_eq_true_eq]
theorem za(d f:aR)(a c:bB)(L:d.length=32)(N:f.length=12)(C:jr d)(D:jr f)(G:a.size<=1000000)(he:c.size<=1000000)(w:ay)
 (
  H:w.rangeAt 25 0 (fG.map (Value.int .u32))) (I:w.rangeAt 26 0 j9):
  Calls prog 173 #[.agg (ai .u8 d),.agg (ai .u8 f),.string a,.string c] w
   λe O=>e= .returned (.string (strOfNums (rK d f (bI a) (bI c))))/\Below w.heap.size w O:=by
 have P:=aa H;have Q:=aa I;clear H I;have R:=aa L;have S:=aa N;have U:=aa C;have Y:=aa D;have J:=aa G;have K:=aa he;obtain⟨M,l⟩:=eZ (rK d f (bI a) (bI c));have ab:M.length=16:=by rw[l.o];exact pG _ _ _ _
 obtain⟨Z,j⟩:=eZ (ol d 0 f);have i:Z.length=64:=by rw[j.o];exact uX _ _ _
 have m:=aa (by rw[j.o];exact Aw _ _ _:∀b∈Z,0<=b/\b<=255);have n:(Z.take 32).length=32:=by rw[aO,i];rfl
 have ad:(Z.drop 32).length=32:=by rw[bK,i]
 have al:=aa (cR 32 Z).symm;obtain⟨E,o⟩:=eZ (strOfNums (vc (bI c)));obtain⟨F,hF⟩:=eZ (strOfNums (vc (bI a)));obtain⟨X,p⟩:=eZ (strOfNums (jI c.size 8));obtain⟨V,q⟩:=eZ (strOfNums (jI a.size 8));have r:E.size<=1000015:=by rw[o.o,bG,wD,aj];unfold KJ;omega
 have s:F.size<=1000015:=by rw[hF.o,bG,wD,aj];unfold KJ;omega
 have t:X.size=8:=by rw[p.o,bG,eJ]
 have u:V.size=8:=by rw[q.o,bG,eJ]
 have k:=aa (show bI (E++F++X++V)=allI (bI a) (bI c) by
  rw[gP,gP,gP,o.o,hF.o,p.o,q.o,cJ (xX _ (cY (c8 c))),cJ (xX _ (cY (c8 a))),cJ (vv _ _),cJ (vv _ _)];unfold allI;rw[aj,aj])
 have x:=aa (af:E.size+F.size<=9223372036854775807);have y:=aa (af:E.size+F.size+X.size<=9223372036854775807);have A:=aa (af:E.size+F.size+X.size+V.size<=9223372036854775807);have B:=aa (by rw[aN,aN,aN];omega:(E++F++X++V).size<=2000046);rw[<-l.o];clear r s t u G he C D;refine TC.enter func173 ntmps173 [] [] (Hp.nil [] w) ?_;refine T.one 0 (TO.J (z:=32) λb1=> ?_);refine T.one 1 (TO.J (z:=12) λb2=> ?_);refine T.one 2 (TO.qk (v:= .agg (ai .u8 Z)) (λW g=>by rw[j.o];exact yH d f 0 R.o S.o U.o Y.o W (cT P.o g.below) (cT Q.o g.below)) ?_);refine T.one 3 (TO.J (z:=64) λb=> ?_);refine TC.split 2 [32,32] [(Z.take 32).map (.int .u8),(Z.drop 32).map (.int .u8)] (he:=by show(List.map _ _++(List.map _ _++ []))=List.map _ Z++ [];rw[bP,bP,<-cN,cR]) (hl:=by simp[i]) ?_;refine TC.rg [117000] ?_;refine T.one 4 (TO.qk (v:= .string E) (λW g=>by rw[o.o];exact vi c (dp K.o) W) ?_);refine T.one 6 (TO.qk (v:= .string F) (λW g=>by rw[hF.o];exact vi a (dp J.o) W) ?_);have c1:=x.o;refine T.qv 7 (.string (E++F)) ?_;clear c1;refine T.one 10 (TO.qk (v:= .string X) (λW g=>by rw[p.o];exact wW c.size (dp K.o) W) ?_);have c1:=y.o;refine T.qv 11 (.string (E++F++X)) ?_;clear c1;refine T.one 14 (TO.qk (v:= .string V) (λW g=>by rw[q.o];exact wW a.size (dp J.o) W) ?_);have c1:=A.o;refine T.qv 15 (.string (E++F++X++V)) ?_;clear c1
 refine T.one 16 (TO.qk (v:= .agg (ai .u8 M)) (λW g=>by
  have h:=K9 (Z.take 32) (E++F++X++V) n (oP (cm m.o) _) (dp B.o) W;rw[k.o,j.o,show Ir ((ol d 0 f).take 32) (allI (bI a) (bI c))=rK d f (bI a) (bI c)from rfl,<-l.o,<-j.o]at h;exact h) ?_)
 refine T.one 17 (TO.J (z:=16) λb3=> ?_);refine T.Xv 1 3 M ?_;refine TE.rv λW g=>⟨rfl,g.below⟩
theorem It(c d:aR)(b a:bB)(q:c.length=32)(r:d.length=12)(l:jr c)(m:jr d)(s:b.size<=1000000)(he:a.size<=1000000)(w:ay)
 (
  n:w.rangeAt 25 0 (fG.map (Value.int .u32))) (o:w.rangeAt 26 0 j9):
  Calls prog 132 #[.agg (ai .u8 c),.agg (ai .u8 d),.string b,.string a] w
   λe t=>e= .returned (.string (strOfNums (mi c d (bI b) (bI a))))/\Below w.heap.size w t:=by
 obtain⟨X,j⟩:=eZ (strOfNums (qt c 1 d (bI b)));have f:=aa (by rw[j.o,cJ (BP _ _ _ _)]:bI X=qt c 1 d (bI b));have g:X.size=b.size:=by rw[<-aj,f.o,hI,aj]
 obtain⟨M,k⟩:=eZ (strOfNums (rK c d (bI X) (bI a)));have p:M.size=16:=by rw[k.o,bG,pG]
 rw[show strOfNums (mi c d (bI b) (bI a))=X++M by unfold mi;rw[Ad,<-j.o,<-f.o,<-k.o]];have u:=aa (λW (h:Below w.heap.size w W)=>Ek c d 1 b q r l m an an af W (cT n h) (cT o h));have x:=aa (λW (h:Below w.heap.size w W)=>za c d X a q r l m (by rw[g];exact s) he W (cT n h) (cT o h));rw[<-j.o,<-k.o]at*;have y:X.size+M.size<=9223372036854775807:=af;clear j f k p g s he l m n o;refine TC.enter func132 ntmps132 [] [] (Hp.nil [] w) ?_;refine T.one 0 (TO.J (z:=32) λA=> ?_);refine T.one 1 (TO.J (z:=12) λB=> ?_);refine T.one 3 (TO.qk (v:= .string X) (λW i=>u.o W i.below) ?_);refine T.one 5 (TO.qk (v:= .string M) (λW i=>x.o W i.below) ?_);refine T.qv 6 (.string (X++M)) ?_;refine TE.rv λW i=>⟨rfl,i.below⟩
theorem Is(b c:aR)(s a:bB)(C:b.length=32)(D:c.length=12)(l:jr b)(o:jr c)(O:s.size<=1000000)(he:a.size<=1000000)(f g:cH)(w:ay)
 (p:w.rangeAt 25 0 (fG.map (Value.int .u32))) (q:w.rangeAt 26 0 j9)
 (
  E:w.cell? ⟨1,0,none⟩=some f) (F:w.cell? ⟨4,0,none⟩=some g):
  Calls prog 139 #[.agg (ai .u8 b),.agg (ai .u8 c),.string s,.string a] w
   λe P=>e= .returned (.tuple #[.string (strOfNums (sY b c (bI s) (bI a))),EP (sX b c (bI s) (bI a)) f g])/\Below w.heap.size w P:=by
 by_cases x:s.size<16
 .have V:(s.size:Int) -16<0:=af;have Q:IntKind.i64.wrap ((s.size:Int) -16)=(s.size:Int) -16:=xG af af;rw[show sY b c (bI s) (bI a)= [] by unfold sY;rw[aj,aJ x],show sX b c (bI s) (bI a)=2 by unfold sX;rw[aj,aJ x],MC,show EP 2 f g=f from rfl];clear p q l o F;refine TC.enter func139 ntmps139 [] [] (Hp.nil [] w) ?_;refine T.one 0 (TO.J (z:=32) λR=> ?_);refine T.one 1 (TO.J (z:=12) λS=> ?_);refine TC.rg [] ?_;refine T.lw 0 f E ga ?_;refine TE.zc λW d=>⟨rfl,d.below⟩
 .obtain⟨n,k⟩:∃n,s.size=n+16:=⟨s.size -16,af⟩;have Q:IntKind.i64.wrap ((s.size:Int) -16)=(n:Int):=by rw[xG af af];omega
  have Y:¬(n:Int)<0:=af;have Z:(n:Int)<=s.size:=af;obtain⟨A,t⟩:=eZ (s.extract 0 n);obtain⟨j,u⟩:=eZ (s.extract n s.size);have G:A.size<=1000000:=by rw[t.o];simp;omega
  have H:j.size<=1000000000:=by rw[u.o];simp;omega
  obtain⟨I,J⟩:=KD b c s a n k A j t.o u.o;rw[I,J];obtain⟨M,K⟩:=eZ (strOfNums (rK b c (bI A) (bI a)));obtain⟨X,y⟩:=eZ (strOfNums (qt b 1 c (bI A)));have L:=aa (λW (h:Below w.heap.size w W)=>Ek b c 1 A C D l o an an af W (cT p h) (cT q h));have N:=aa (λW (h:Below w.heap.size w W)=>za b c A a C D l o G he W (cT p h) (cT q h));rw[<-y.o]at L;rw[<-K.o]at N⊢;have B:=aa (λW=>(Ln j M H W).mono λr U h=>show _/\Below W.heap.size W U from⟨h.1,by obtain⟨m,rfl⟩:=h.2;exact bA (aw _ _) m⟩);have ha:=t.o.symm;have ht:=u.o.symm;clear t u K G H I J O he l o p q x E k
  by_cases i:M=j
  all_goals
   first|(rw[aJ i,aJ i,<-y.o,show EP 0 f g= .nilIface from rfl];rw[show decide (j=M)=true by simp[i]]at B)|(rw[aq i,aq i,MC,show EP 5 f g=g from rfl];rw[show decide (j=M)=false from eM λe=>i e.symm]at B)
   clear i y;refine TC.enter func139 ntmps139 [] [] (Hp.nil [] w) ?_;refine T.one 0 (TO.J (z:=32) λR=> ?_);refine T.one 1 (TO.J (z:=12) λS=> ?_);refine TC.rg [] ?_;refine T.one 9 (TO.qk (v:= .string M) (λW d=>N.o W d.below) ?_);refine T.one 10 (TO.qk (λW d=>B.o W) ?_);refine TC.rg [] ?_
  .skip
   refine T.one 5 (TO.qk (v:= .string X) (λW d=>L.o W d.below) ?_);refine TE.zc λW d=>⟨rfl,d.below⟩
  .refine T.lw 0 g F ga ?_;refine TE.zc λW d=>⟨rfl,d.below⟩
theorem Zl{a c:Nat}(b:a<4294967296)(d:c<=1):bits BinOp.or IntKind.u32 ((a:Int)*2 %4294967296) c=((2*a %4294967296+c:Nat):Int):=by
 have e:((a:Int)*2 %4294967296)=((a %2147483648*2:Nat):Int):=af;rw[e,u32_or_nat (a %2147483648*2) c af af,nat_join 1 (a %2147483648*2) c af af];omega
theorem Fx(n g b:Nat)(w:ay)(u:Whole w g 314 (ai .u32 (pg 9 n)))(v:jS w)(hlt:n<lS)(x:b<=1)(y:g≠27):
 Calls prog 235 #[.pointer (some ⟨g,0,none⟩),.int .u32 (b:Int)] w λe z=>e= .returned (.tuple #[])/\Whole z g 314 (ai .u32 (pg 9 (CH (2*n+b))))/\w.grownBy z (some g):=by
 have B:=aa u;have C:=aa v;have p:=aa x;have A:=aa y;have q:=aa hlt;clear u v x y hlt;obtain⟨D,a⟩:=aP (CH (2*n+b));rw[<-a];have m:=aa a;clear a
 go_enter func235,ntmps235
 go_wp2_with fail
 go_loopw [1,6] (λc i wr=> ∃k:Nat,k<=9/\i= .int .i64 (k:Int)/\c= .int .u32 ((Yt n b k:Nat):Int)/\eU w wr g 314 .u32 (eH (gq (2*n+b)) (gq n) 9 k)) (λ_ i _=>9 -(intOf i).toNat)
 case atStart=>exact⟨0,af,rfl,rfl,by rw[Eg];exact eU.start B.o⟩
 case round=>
  obtain⟨k,r,rfl,rfl,j⟩:=hrel;have E:=aa j
  by_cases d:k<9
  .have F:=j.et.int k (by rw[du];exact d);rw[mo d,aq (pM _)]at F;have fa:=j.et.free k;have G:=ji n k;have H:=JO n b p.o k;have h:=aa (jV (f:=gq (2*n+b)) (g:=gq n) d);rw[Uy n b p.o k]at h;have L:=Zl G H;have s:=aa (show Yt n b (k+1)=gq n k/2147483648 from rfl);have t:=aa d;have M:(k:Int)<9:=af;generalize(2*gq n k %4294967296+Yt n b k)=N at*;clear j
   go_wp2_with fail
   go_region
   all_goals
    go_wp2_with fail
    go_roundw
    case rel=>exact⟨k+1,by have:=t.o;omega,by go_num,by rw[s.o];simp,by rw[<-h.o];exact(E.o.set k _).drew⟩
    case measure=>simp[intOf];omega
  .obtain rfl:k=9:=af;have l:=j.et;rw[BE]at l;have I:=aa l;have o:=aa j.only;clear j l
   go_wp2_with fail
   refine(Lm (2*n+b) g wr I.o (C.o.only o.o A.o) (oa (Nat.lt_trans (show 2*n+b<2*lS by have:=q.o;have:=p.o;omega) (by decide+kernel))) A.o).mono ?_;rintro e W ⟨rfl,l,r⟩;rw[<-m.o]at l;have J:=aa l;have K:=aa r;clear l r
   go_wp2_with fail
   go_end0
   exact⟨rfl,J.o,aZ o.o K.o⟩
end Go.Proofs.P
namespace Go.Spk
def tf(n m:Nat):Nat->List Int
 |0=> []
 |k+1=>tf n m k++ [((n/256^(m -1 -k) %256:Nat):Int)]
theorem oQ(n m k:Nat):(tf n m k).length=k:=by
 induction k with
 |zero=>rfl
 |succ k a=>rw[tf,am,a];rfl
theorem Gb(n m k:Nat):∀b∈tf n m k,0<=b/\b<=255:=by
 induction k with
 |zero=>intro b a;cases a
 |succ k c=>
  intro b a;rw[tf,bT]at a;rcases a with a|a
  .exact c b a
  .rw[ar.1 a];omega
def jp(b:Bool):Nat:=if b then 64 else 32
def tq(b:Bool):Nat:=if b then 80 else 64
def SE(b:Bool):Nat×Nat×Nat:=if b then(1,8,7)else(7,18,3)
def SF(b:Bool):Nat×Nat×Nat:=if b then(19,61,6)else(17,19,10)
def Yu(b:Bool):Nat×Nat×Nat:=if b then(28,34,39)else(2,13,22)
def Yv(b:Bool):Nat×Nat×Nat:=if b then(14,18,41)else(6,11,25)
def rj(w x n:Nat):Nat:=((x<<<(w -n)) %2^w)|||(x>>>n)
def jT(b:Bool)(x:Nat):Nat:=x %2^jp b
def pn(b:Bool)(x:Nat)(p:Nat×Nat×Nat):Nat:=(rj (jp b) x p.1^^^rj (jp b) x p.2.1)^^^(x>>>p.2.2)
def tL(b:Bool)(x:Nat)(p:Nat×Nat×Nat):Nat:=(rj (jp b) x p.1^^^rj (jp b) x p.2.1)^^^rj (jp b) x p.2.2
def mQ(b:Bool)(x:Nat):Nat:=x>>>(64 -jp b)
def Pd(l:List Int):Nat:=l.foldl (λa x=>a*256+x.toNat) 0
def Ac(b:Bool)(et:List Int)(t:Nat)(l:List Nat):Nat:=
 if t<16 then Pd ((et.drop (t*(jp b/8))).take (jp b/8))
 else jT b (pn b (l.getD 1 0) (SF b)+l.getD 6 0+pn b (l.getD 14 0) (SE b)+l.getD 15 0)
def xg(b:Bool)(et:List Int):Nat->List Nat
 |0=> []
 |t+1=>Ac b et t (xg b et t)::xg b et t
def sH(b:Bool)(et:List Int)(t:Nat):Nat:=Ac b et t (xg b et t)
def lO:List Nat:= [
 4794697086780616226,8158064640168781261,13096744586834688815,16840607885511220156,
 4131703408338449720,6480981068601479193,10538285296894168987,12329834152419229976,
 15566598209576043074,1334009975649890238,2608012711638119052,6128411473006802146,
 8268148722764581231,9286055187155687089,11230858885718282805,13951009754708518548,
 16472876342353939154,17275323862435702243,1135362057144423861,2597628984639134821,
 3308224258029322869,5365058923640841347,6679025012923562964,8573033837759648693,
 10970295158949994411,12119686244451234320,12683024718118986047,13788192230050041572,
 14330467153632333762,15395433587784984357,489312712824947311,1452737877330783856,
 2861767655752347644,3322285676063803686,5560940570517711597,5996557281743188959,
 7280758554555802590,8532644243296465576,9350256976987008742,10552545826968843579,
 11727347734174303076,12113106623233404929,14000437183269869457,14369950271660146224,
 15101387698204529176,15463397548674623760,17586052441742319658,1182934255886127544,
 1847814050463011016,2177327727835720531,2830643537854262169,3796741975233480872,
 4115178125766777443,5681478168544905931,6601373596472566643,7507060721942968483,
 8399075790359081724,8693463985226723168,9568029438360202098,10144078919501101548,
 10430055236837252648,11840083180663258601,13761210420658862357,14299343276471374635,
 14566680578165727644,15097957966210449927,16922976911328602910,17689382322260857208,
 500013540394364858,748580250866718886,1242879168328830382,1977374033974150939,
 2944078676154940804,3659926193048069267,4368137639120453308,4836135668995329356,
 5532061633213252278,6448918945643986474,6902733635092675308,7801388544844847127]
def iY:List Nat:= [
 7640891576956012808,13503953896175478587,4354685564936845355,11912009170470909681,
 5840696475078001361,11170449401992604703,2270897969802886507,6620516959819538809]
def VO(b:Bool)(k w a c d e:Nat):Nat:=(e+tL b a (Yv b)+((a&&&c)^^^((18446744073709551615 -a)&&&d))+mQ b k+w) %18446744073709551616
def ZR(b:Bool)(a c d:Nat):Nat:=(tL b a (Yu b)+(((a&&&c)^^^(a&&&d))^^^(c&&&d))) %18446744073709551616
def Li(b:Bool)(k w:Nat):List Nat->List Nat
 | [e,f,g,i,a,c,d,h]=>
  [jT b (VO b k w a c d h+ZR b e f g),e,f,g,jT b (i+VO b k w a c d h),a,c,d]
 |_=> []
def Fq(b:Bool)(n:Nat)(ws:List Nat)(h:List Nat):Nat->List Nat
 |0=>h
 |t+1=>Li b (lO.getD t 0) (ws.getD (n -1 -t) 0) (Fq b n ws h t)
def Ru(b:Bool)(h:List Nat)(et:List Int):List Nat:=
 List.zipWith (λa x=>jT b (a+x)) h (Fq b (tq b) (xg b et (tq b)) h (tq b))
def vH(b:Bool):Nat->List Nat->List Int->List Nat
 |0,h,_=>h
 |n+1,h,s=>vH b n (Ru b h (s.take (2*jp b))) (s.drop (2*jp b))
def MQ(b:Bool)(n:Nat):Nat:=(2*jp b -(n+1+jp b/4) %(2*jp b)) %(2*jp b)+jp b/4 -8
def pk(b:Bool)(n:Nat):List Int:= [128]++List.replicate (MQ b n) 0++tf (n*8) 8 8
def zy(b:Bool)(a:List Nat):List Int:=a.flatMap λx=>tf x (jp b/8) (jp b/8)
def mj(b:Bool)(s:List Int):List Int:=
 zy b (vH b ((s.length+(pk b s.length).length)/(2*jp b)) (iY.map (mQ b)) (s++pk b s.length))
section
variable {b:Bool}{et:List Int}
theorem ug(t j:Nat)(h:j<t):(xg b et t).getD j 0=sH b et (t -1 -j):=by
 induction t generalizing j with
 |zero=>omega
 |succ t a=>
  cases j with
  |zero=>simp[xg,sH]
  |succ j=>
   have c:=a j af;rw[xg,List.getD_cons_succ,c];congr 1;omega
theorem M6{t}(h:t<16):sH b et t=Pd ((et.drop (t*(jp b/8))).take (jp b/8)):=by
 unfold sH Ac;rw[aJ h]
theorem M5{t}(h:16<=t):sH b et t=jT b (pn b (sH b et (t -2)) (SF b)+sH b et (t -7)+pn b (sH b et (t -15)) (SE b)+sH b et (t -16)):=by
 unfold sH Ac;rw[aq af,ug t 1 af,ug t 6 af,ug t 14 af,ug t 15 af]
 rfl
theorem PM(l:aR)(x:Int):Pd (l++ [x])=Pd l*256+x.toNat:=by simp[Pd]
theorem PK{l}(h:∀z∈l,0<=z/\z<=255):Pd l<256^l.length:=by
 suffices ∀(l:List Int) (a m:Nat),(∀z∈l,0<=z/\z<=255)->a<256^m->l.foldl (λa x=>a*256+x.toNat) a<256^(m+l.length) by
  have b:=this l 0 0 h an;rwa[aW]at b
 intro l
 induction l with
 |nil=>intro a m _ h;exact h
 |cons z r d=>
  intro a m c g;have i:=c z bj;have b:a*256+z.toNat<256^(m+1):=by rw[Nat.pow_succ];omega
  have e:=d _ _ (λy f=>c y (by simp[f])) b;rw[List.foldl_cons,fw,show m+(r.length+1)=m+1+r.length by omega];exact e
theorem FB(b:Bool):jp b=32\/jp b=64:=by cases b<;>simp[jp]
theorem nh(b:Bool)(x:Nat):jT b x<2^jp b:=fF _ (gR _)
theorem Tp(b:Bool):2^jp b<=18446744073709551616:=by cases b<;>decide
theorem M7(a:∀z∈et,0<=z/\z<=255)(t:Nat):sH b et t<2^jp b:=by
 by_cases h:t<16
 .rw[M6 h];have c:=PK (l:=(et.drop (t*(jp b/8))).take (jp b/8)) (λz d=>a z (ie (dW d)));refine aL c ?_;refine ap (es an (List.length_take_le _ _)) ?_;cases b<;>decide
 .rw[M5 af];exact nh _ _
theorem Ts(b:Bool){x}(h:x<18446744073709551616):mQ b x<2^jp b:=by
 unfold mQ;rw[e8];cases b
 .show x/2^32<2^32;omega
 .show x/2^0<2^64;omega
def mG(b:Bool)(l:List Nat):Prop:= ∃a c d e f g h i,l= [a,c,d,e,f,g,h,i]/\a<2^jp b/\c<2^jp b/\d<2^jp b/\e<2^jp b/\f<2^jp b/\g<2^jp b/\h<2^jp b/\i<2^jp b
theorem Ft{k w}{l}(h:mG b l):mG b (Li b k w l):=by
 obtain⟨i,j,m,n,o,p,q,r,rfl,a,c,d,s,e,f,g,t⟩:=h;exact⟨_,_,_,_,_,_,_,_,rfl,nh _ _,a,c,d,nh _ _,e,f,g⟩
theorem vO{n}{ws h}(a:mG b h)(t:Nat):mG b (Fq b n ws h t):=by
 induction t with
 |zero=>exact a
 |succ t c=>exact Ft c
theorem Pa{h x}(c:mG b h)(d:mG b x):mG b (List.zipWith (λa x=>jT b (a+x)) h x):=by
 obtain⟨_,_,_,_,_,_,_,_,rfl,_⟩:=c;obtain⟨_,_,_,_,_,_,_,_,rfl,_⟩:=d;exact⟨_,_,_,_,_,_,_,_,rfl,nh _ _,nh _ _,nh _ _,nh _ _,nh _ _,nh _ _,nh _ _,nh _ _⟩
theorem Bc{h}(a:mG b h)(et:aR):mG b (Ru b h et):=Pa a (vO a _)
theorem wN(n:Nat):∀(h:iT) (s:aR),mG b h->mG b (vH b n h s):=by
 induction n with
 |zero=>intro h s a;exact a
 |succ n c=>intro h s a;exact c _ _ (Bc a _)
theorem tF(b:Bool):mG b (iY.map (mQ b)):=by
 refine⟨_,_,_,_,_,_,_,_,rfl,?_,?_,?_,?_,?_,?_,?_,?_⟩<;>exact Ts b an
theorem mG.length{l}(h:mG b l):l.length=8:=by
 obtain⟨_,_,_,_,_,_,_,_,rfl,_⟩:=h;rfl
theorem mG.lt{l}(h:mG b l)(i:Nat):l.getD i 0<2^jp b:=by
 obtain⟨_,_,_,_,_,_,_,_,rfl,a,c,d,e,f,g,j,k⟩:=h
 match i with
 |0=>exact a
 |1=>exact c
 |2=>exact d
 |3=>exact e
 |4=>exact f
 |5=>exact g
 |6=>exact j
 |7=>exact k
 |i+8=>simp;exact gR _
theorem y9{l}:(zy b l).length=l.length*(jp b/8):=by
 unfold zy
 induction l with
 |nil=>simp
 |cons x r a=>rw[mS,am,a,oQ,fw,Nat.succ_mul,Nat.add_comm]
theorem Ih{l}:∀z∈zy b l,0<=z/\z<=255:=by
 intro z a;obtain⟨x,_,c⟩:=List.mem_flatMap.1 a;exact Gb _ _ _ z c
theorem eG(b:Bool)(s:aR):(mj b s).length=jp b:=by
 unfold mj;rw[y9,(wN _ _ _ (tF b)).length];cases b<;>rfl
theorem kY(b:Bool)(s:aR):∀z∈mj b s,0<=z/\z<=255:=Ih
theorem Fm(b:Bool)(n:Nat):(pk b n).length=MQ b n+9:=by simp[pk,oQ]
theorem KK(b:Bool)(n:Nat):(n+(pk b n).length) %(2*jp b)=0:=by
 rw[Fm];unfold MQ;cases b
 .show(n+((64 -(n+1+8) %64) %64+8 -8+9)) %64=0;omega
 .show(n+((128 -(n+1+16) %128) %128+16 -8+9)) %128=0;omega
end
def dw(b:Bool):List Int:=if b then[64,80,1,8,7,19,61,6,28,34,39,14,18,41]else[32,64,7,18,3,17,19,10,2,13,22,6,11,25]
theorem vF:ai .i64 (dw false)= #[.int .i64 32,.int .i64 64,.int .i64 7,.int .i64 18,.int .i64 3,.int .i64 17,.int .i64 19,.int .i64 10,.int .i64 2,.int .i64 13,.int .i64 22,.int .i64 6,.int .i64 11,.int .i64 25]:=rfl
theorem yh:ai .i64 (dw true)= #[.int .i64 64,.int .i64 80,.int .i64 1,.int .i64 8,.int .i64 7,.int .i64 19,.int .i64 61,.int .i64 6,.int .i64 28,.int .i64 34,.int .i64 39,.int .i64 14,.int .i64 18,.int .i64 41]:=rfl
theorem wH(b:Bool):(dw b).length=14:=by cases b<;>rfl
theorem aaj(s:Nat)(h1:1<=s)(a:s<64):bits BinOp.and IntKind.u64 (18446744073709551616 -(s:Int)) 63=((64 -s:Nat):Int):=by
 have h:=lz (18446744073709551616 -s) 63 af af;have e:=nZ (18446744073709551616 -s) 6;rw[show 2^6 -1=63 from rfl,show 2^6=64 from rfl]at e;rw[e]at h;rw[show(18446744073709551616 -(s:Int))=((18446744073709551616 -s:Nat):Int) by omega,show(63:Int)=((63:Nat):Int)from rfl,h];omega
theorem aai(s:Nat)(h1:1<=s)(a:s<32):bits BinOp.and IntKind.u64 (18446744073709551616 -(s:Int)) 31=((32 -s:Nat):Int):=by
 have h:=lz (18446744073709551616 -s) 31 af af;have e:=nZ (18446744073709551616 -s) 5;rw[show 2^5 -1=31 from rfl,show 2^5=32 from rfl]at e;rw[e]at h;rw[show(18446744073709551616 -(s:Int))=((18446744073709551616 -s:Nat):Int) by omega,show(31:Int)=((31:Nat):Int)from rfl,h];omega
theorem Sx(x s:Nat)(a:x<18446744073709551616):bits BinOp.or IntKind.u64 (IntKind.u64.wrap ((x:Int)*2^(64 -s))) ((x:Int)/2^s)=((rj 64 x s:Nat):Int):=by
 have b:IntKind.u64.wrap ((x:Int)*2^(64 -s))=((x<<<(64 -s) %18446744073709551616:Nat):Int):=by rw[bH,Nat.shiftLeft_eq,Int.natCast_emod,Int.natCast_mul,tk];rfl
 have c:(x:Int)/2^s=((x>>>s:Nat):Int):=by rw[e8,Int.natCast_ediv,tk];rfl
 have d:x>>>s<18446744073709551616:=by rw[e8];exact gX (pz _ _) a
 rw[b,c,u64_or_nat _ _ (fF _ an) d]
 rfl
theorem Sw(x s:Nat)(a:x<4294967296):bits BinOp.or IntKind.u32 ((x:Int)*2^(32 -s) %4294967296) ((x:Int)/2^s)=((rj 32 x s:Nat):Int):=by
 have b:(x:Int)*2^(32 -s) %4294967296=((x<<<(32 -s) %4294967296:Nat):Int):=by rw[Nat.shiftLeft_eq,Int.natCast_emod,Int.natCast_mul,tk];rfl
 have c:(x:Int)/2^s=((x>>>s:Nat):Int):=by rw[e8,Int.natCast_ediv,tk];rfl
 have d:x>>>s<4294967296:=by rw[e8];exact gX (pz _ _) a
 rw[b,c,u32_or_nat _ _ (fF _ an) d]
 rfl
theorem uG(w x n:Nat)(a:x<2^w):rj w x n<2^w:=by
 unfold rj;refine Nat.or_lt_two_pow (fF _ (gR _)) ?_;rw[e8];exact gX (pz _ _) a
end Go.Spk
namespace Go.Proofs.P
attribute [local go_sem] cr cD
theorem Lh(x s:Nat)(a:x<18446744073709551616)(h1:1<=s)(b:s<64)(w:ay):
 Calls prog 199 #[.int .u64 x,.int .i64 (-(s:Int))] w λe c=>e= .returned (.int .u64 (rj 64 x s:Nat))/\c=w:=by
 have d:=aaj s h1 b;have f:IntKind.u64.wrap (-(s:Int))=18446744073709551616 -(s:Int):=by rw[bH];omega
 have g:IntKind.u64.wrap ((64:Int) -((64 -s:Nat):Int))=(s:Int):=by rw[bH];omega
 go_enter func199,ntmps199
 go_wp2_with fail
 go_ret
 exact⟨aA (λz=>Ending.returned (.int .u64 z)) (Sx x s a),rfl⟩
theorem Lg(x s:Nat)(a:x<4294967296)(h1:1<=s)(b:s<32)(w:ay):
 Calls prog 198 #[.int .u32 x,.int .i64 (-(s:Int))] w λe c=>e= .returned (.int .u32 (rj 32 x s:Nat))/\c=w:=by
 have d:=aai s h1 b;have f:IntKind.u64.wrap (-(s:Int))=18446744073709551616 -(s:Int):=by rw[bH];omega
 have g:IntKind.u64.wrap ((32:Int) -((32 -s:Nat):Int))=(s:Int):=by rw[bH];omega
 go_enter func198,ntmps198
 go_wp2_with fail
 go_ret
 exact⟨aA (λz=>Ending.returned (.int .u32 z)) (Sw x s a),rfl⟩
theorem qT(b:Bool):(prog.info? 143).map (·.size)=some (ai .i64 (dw b)).size:=by rw[ag,wH];kernel_rfl
theorem nD(b:Bool)(x n:Nat)(h:x<2^jp b)(h1:1<=n)(i:n<jp b)(w:ay):
 Calls prog 167 #[.agg (ai .i64 (dw b)),.int .u64 x,.int .i64 n] w λe d=>e= .returned (.int .u64 (rj (jp b) x n:Nat))/\Below w.heap.size w d:=by
 cases b
 .have a:x<4294967296:=h;have f:n<32:=i;have l:IntKind.u32.wrap (x:Int)=(x:Int):=by rw[qx];omega
  have c:IntKind.i64.wrap (-(n:Int))= -(n:Int):=by rw[fu];omega
  have j:=uG 32 x n a;have g:=aa (λW=>Lg x n a h1 f W);show Calls _ _ _ _ λe d=>e= .returned (.int .u64 (rj 32 x n:Nat))/\_;generalize rj 32 x n=r at*;have k:IntKind.u64.wrap (r:Int)=(r:Int):=by rw[bH];omega
  clear j;rw[vF]
  go_enter func167,ntmps167
  go_wp2_with (go_at_call 198;refine(g.o _).mono ?_)
  rintro e w1 ⟨rfl,rfl⟩
  go_wp2_with fail
  go_ret
  exact⟨rfl,by go_grown⟩
 .have a:x<18446744073709551616:=h;have f:n<64:=i;have c:IntKind.i64.wrap (-(n:Int))= -(n:Int):=by rw[fu];omega
  have g:=aa (λW=>Lh x n a h1 f W);show Calls _ _ _ _ λe d=>e= .returned (.int .u64 (rj 64 x n:Nat))/\_;generalize rj 64 x n=r at*;rw[yh]
  go_enter func167,ntmps167
  go_wp2_with (go_at_call 199;refine(g.o _).mono ?_)
  rintro e w1 ⟨rfl,rfl⟩
  go_wp2_with fail
  go_ret
  exact⟨rfl,by go_grown⟩
theorem qW(b:Bool)(x:Nat)(c:x<18446744073709551616)(w:ay):
 Calls prog 126 #[.agg (ai .i64 (dw b)),.int .u64 x] w λe d=>e= .returned (.int .u64 (jT b x:Nat))/\Below w.heap.size w d:=by
 cases b
 .have a:(IntKind.u64.wrap ((x:Int)*4294967296))/4294967296=((jT false x:Nat):Int):=by
   rw[bH];show _=(((x %2^32:Nat)):Int);omega
  generalize jT false x=r at*;rw[vF]
  go_enter func126,ntmps126
  go_wp2_with fail
  go_quiet (fail)
  all_goals
   go_wp2_with fail
   go_ret
   exact⟨rfl,bA (by go_grown) _⟩
 .have a:jT true x=x:=by unfold jT;exact ig c
  have f:IntKind.u64.wrap (x:Int)=(x:Int):=by rw[bH];omega
  rw[a];clear a;rw[yh]
  go_enter func126,ntmps126
  go_wp2_with fail
  go_quiet (fail)
  all_goals
   go_wp2_with fail
   go_ret
   exact⟨rfl,bA (by go_grown) _⟩
theorem xi(b:Bool)(x:Nat)(d:x<18446744073709551616)(w:ay):
 Calls prog 89 #[.agg (ai .i64 (dw b)),.int .u64 x] w λe c=>e= .returned (.int .u64 (mQ b x:Nat))/\Below w.heap.size w c:=by
 cases b
 .have a:(x:Int)/4294967296=((mQ false x:Nat):Int):=by
   unfold mQ;rw[e8];show _=(((x/2^32:Nat)):Int);omega
  generalize mQ false x=r at*;rw[vF]
  go_enter func89,ntmps89
  go_wp2_with fail
  go_ret
  exact⟨rfl,by go_grown⟩
 .have a:mQ true x=x:=rfl;rw[a];rw[yh]
  go_enter func89,ntmps89
  go_wp2_with fail
  go_ret
  exact⟨rfl,by go_grown⟩
end Go.Proofs.P
namespace Go.Proofs.P
attribute [local go_sem] cr cD
theorem oN(b:Bool)(x a c d:Nat)(i:x<2^jp b)(v:1<=a/\a<jp b)(y:1<=c/\c<jp b)(X:d<64)(w:ay):
 Calls prog 166 #[.agg (ai .i64 (dw b)),.int .u64 x,.agg (ai .i64 [(a:Int),(c:Int),(d:Int)])] w λe Q=>e= .returned (.int .u64 (pn b x (a,c,d):Nat))/\Below w.heap.size w Q:=by
 have h:=Tp b;have H:=aa (λW=>nD b x a i v.1 v.2 W);have I:=aa (λW=>nD b x c i y.1 y.2 W);have z:=uG (jp b) x a i;have A:=uG (jp b) x c i;obtain⟨m,B⟩:=aP (rj (jp b) x a);obtain⟨o,C⟩:=aP (rj (jp b) x c);obtain⟨j,r⟩:=aP (m^^^o);obtain⟨k,s⟩:=aP (x>>>d);obtain⟨t,D⟩:=aP (j^^^k);rw[show pn b x (a,c,d)=t by rw[D,r,s,B,C];rfl];rw[<-B]at H z;rw[<-C]at I A;have E:m<18446744073709551616:=aL z h;have F:o<18446744073709551616:=aL A h;have J:j<18446744073709551616:=by rw[r];exact o7 (n:=64) E F
 have L:k<18446744073709551616:=by rw[s,e8];exact gX (pz _ _) (aL i h)
 have R:(x:Int)/2^d=(k:Int):=by rw[s,e8,Int.natCast_ediv,tk];rfl
 have S:(0:Int)<=d:=af;have Y:bits BinOp.xor IntKind.u64 (m:Int) (o:Int)=(j:Int):=by rw[r];exact u64_xor_nat m o E F
 have Z:bits BinOp.xor IntKind.u64 (j:Int) (k:Int)=(t:Int):=by rw[D];exact u64_xor_nat j k J L
 clear B C r s D z A E F J L h v y i
 go_enter func166,ntmps166
 go_upto_region 1 with(fail)
 refine aU (λW=>Below w.heap.size w W/\Whole W w.heap.size 143 (ai .i64 (dw b))/\Whole W (w.heap.size+1) 141 (ai .i64 [(a:Int),(c:Int),(d:Int)])) ⟨by go_grown,(Whole.new rfl rfl).alloc _,Whole.new bj rfl⟩ ?_;intro M ⟨N,O,kT⟩;have P:=aa N;have u:=aa O;have l:=aa kT;clear N O kT;refine iI (λW=>Below M.heap.size M W) al al (bA (aw _ _) 1) ?_;refine e9 (λK p=> ?_);refine jo al 143 (.tmp 3) rfl (w.heap.size) 0 rfl (ai .i64 (dw b)) _ (λW g=>(At.below (At.j u.o) g u.o.inside)) underlying143 rfl (qT b) ?_;go_simp;refine p _ ?_;clear p K;refine mD (.int .u64 (x:Int)) ?_;refine mD (.pointer (some ⟨w.heap.size+1,0,none⟩)) ?_;refine xO (.int .i64 (a:Int)) (λW g=>aD ?_) ?_
 .have c:W.cell? ⟨w.heap.size+1,0,none⟩=some (.int .i64 (a:Int)):=(l.o.below g l.o.inside).int 0 bj;go_simp
 refine xO (.int .u64 (m:Int)) (λW g=> ?_) ?_
 .refine cZ (f:=167) (args:=(#[.agg (ai .i64 (dw b)),.int .u64 (x:Int),.int .i64 (a:Int)])) fN ?_;refine(H.o W).mono ?_;rintro e U ⟨rfl,G⟩;exact⟨rfl,g.trans (G.mono g.size)⟩
 refine e9 (λK p=> ?_);refine jo al 143 (.tmp 3) rfl (w.heap.size) 0 rfl (ai .i64 (dw b)) _ (λW g=>(At.below (At.j u.o) g u.o.inside)) underlying143 rfl (qT b) ?_;go_simp;refine p _ ?_;clear p K;refine mD (.int .u64 (x:Int)) ?_;refine mD (.pointer (some ⟨w.heap.size+1,1,none⟩)) ?_;refine xO (.int .i64 (c:Int)) (λW g=>aD ?_) ?_
 .have c:W.cell? ⟨w.heap.size+1,1,none⟩=some (.int .i64 (c:Int)):=(l.o.below g l.o.inside).int 1 bj;go_simp
 refine xO (.int .u64 (o:Int)) (λW g=> ?_) ?_
 .refine cZ (f:=167) (args:=(#[.agg (ai .i64 (dw b)),.int .u64 (x:Int),.int .i64 (c:Int)])) fN ?_;refine(I.o W).mono ?_;rintro e U ⟨rfl,G⟩;exact⟨rfl,g.trans (G.mono g.size)⟩
 refine mD (.int .u64 (j:Int)) ?_;refine mD (.int .u64 (x:Int)) ?_;refine mD (.pointer (some ⟨w.heap.size+1,2,none⟩)) ?_;refine xO (.int .i64 (d:Int)) (λW g=>aD ?_) ?_
 .have c:W.cell? ⟨w.heap.size+1,2,none⟩=some (.int .i64 (d:Int)):=(l.o.below g l.o.inside).int 2 bj;go_simp
 refine mD (.int .u64 (k:Int)) ?_;refine mD (.int .u64 (t:Int)) ?_;refine mD (.int .u64 (t:Int)) ?_;refine q5 ?_;intro W5 q;have V:=aa (P.o.trans (q.mono P.o.size));clear q
 go_wp2_with fail
 go_ret
 exact⟨rfl,V.o⟩
theorem oM(b:Bool)(x a c d:Nat)(j:x<2^jp b)(v:1<=a/\a<jp b)(y:1<=c/\c<jp b)(z:1<=d/\d<jp b)(w:ay):
 Calls prog 125 #[.agg (ai .i64 (dw b)),.int .u64 x,.agg (ai .i64 [(a:Int),(c:Int),(d:Int)])] w λe V=>e= .returned (.int .u64 (tL b x (a,c,d):Nat))/\Below w.heap.size w V:=by
 have h:=Tp b;have J:=aa (λW=>nD b x a j v.1 v.2 W);have L:=aa (λW=>nD b x c j y.1 y.2 W);have A:=uG (jp b) x a j;have B:=uG (jp b) x c j;have M:=aa (λW=>nD b x d j z.1 z.2 W);have C:=uG (jp b) x d j;obtain⟨o,D⟩:=aP (rj (jp b) x a);obtain⟨p,E⟩:=aP (rj (jp b) x c);obtain⟨k,t⟩:=aP (o^^^p);obtain⟨q,F⟩:=aP (rj (jp b) x d);obtain⟨u,G⟩:=aP (k^^^q);rw[show tL b x (a,c,d)=u by rw[G,t,F,D,E];rfl];rw[<-D]at J A;rw[<-E]at L B;rw[<-F]at M C;have H:o<18446744073709551616:=aL A h;have I:p<18446744073709551616:=aL B h;have N:k<18446744073709551616:=by rw[t];exact o7 (n:=64) H I
 have O:q<18446744073709551616:=aL C h;have Y:bits BinOp.xor IntKind.u64 (o:Int) (p:Int)=(k:Int):=by rw[t];exact u64_xor_nat o p H I
 have Z:bits BinOp.xor IntKind.u64 (k:Int) (q:Int)=(u:Int):=by rw[G];exact u64_xor_nat k q N O
 clear D E t F G A B H I N O h v y j z C
 go_enter func125,ntmps125
 go_upto_region 1 with(fail)
 refine aU (λW=>Below w.heap.size w W/\Whole W w.heap.size 143 (ai .i64 (dw b))/\Whole W (w.heap.size+1) 141 (ai .i64 [(a:Int),(c:Int),(d:Int)])) ⟨by go_grown,(Whole.new rfl rfl).alloc _,Whole.new bj rfl⟩ ?_;intro P ⟨Q,R,kT⟩;have S:=aa Q;have l:=aa R;have m:=aa kT;clear Q R kT;refine iI (λW=>Below P.heap.size P W) al al (bA (aw _ _) 1) ?_;refine e9 (λK i=> ?_);refine jo al 143 (.tmp 3) rfl (w.heap.size) 0 rfl (ai .i64 (dw b)) _ (λW g=>(At.below (At.j l.o) g l.o.inside)) underlying143 rfl (qT b) ?_;go_simp;refine i _ ?_;clear i K;refine mD (.int .u64 (x:Int)) ?_;refine mD (.pointer (some ⟨w.heap.size+1,0,none⟩)) ?_;refine xO (.int .i64 (a:Int)) (λW g=>aD ?_) ?_
 .have c:W.cell? ⟨w.heap.size+1,0,none⟩=some (.int .i64 (a:Int)):=(m.o.below g m.o.inside).int 0 bj;go_simp
 refine xO (.int .u64 (o:Int)) (λW g=> ?_) ?_
 .refine cZ (f:=167) (args:=(#[.agg (ai .i64 (dw b)),.int .u64 (x:Int),.int .i64 (a:Int)])) fN ?_;refine(J.o W).mono ?_;rintro e U ⟨rfl,r⟩;exact⟨rfl,g.trans (r.mono g.size)⟩
 refine e9 (λK i=> ?_);refine jo al 143 (.tmp 3) rfl (w.heap.size) 0 rfl (ai .i64 (dw b)) _ (λW g=>(At.below (At.j l.o) g l.o.inside)) underlying143 rfl (qT b) ?_;go_simp;refine i _ ?_;clear i K;refine mD (.int .u64 (x:Int)) ?_;refine mD (.pointer (some ⟨w.heap.size+1,1,none⟩)) ?_;refine xO (.int .i64 (c:Int)) (λW g=>aD ?_) ?_
 .have c:W.cell? ⟨w.heap.size+1,1,none⟩=some (.int .i64 (c:Int)):=(m.o.below g m.o.inside).int 1 bj;go_simp
 refine xO (.int .u64 (p:Int)) (λW g=> ?_) ?_
 .refine cZ (f:=167) (args:=(#[.agg (ai .i64 (dw b)),.int .u64 (x:Int),.int .i64 (c:Int)])) fN ?_;refine(L.o W).mono ?_;rintro e U ⟨rfl,r⟩;exact⟨rfl,g.trans (r.mono g.size)⟩
 refine mD (.int .u64 (k:Int)) ?_;refine e9 (λK i=> ?_);refine jo al 143 (.tmp 3) rfl (w.heap.size) 0 rfl (ai .i64 (dw b)) _ (λW g=>(At.below (At.j l.o) g l.o.inside)) underlying143 rfl (qT b) ?_;go_simp;refine i _ ?_;clear i K;refine mD (.int .u64 (x:Int)) ?_;refine mD (.pointer (some ⟨w.heap.size+1,2,none⟩)) ?_;refine xO (.int .i64 (d:Int)) (λW g=>aD ?_) ?_
 .have c:W.cell? ⟨w.heap.size+1,2,none⟩=some (.int .i64 (d:Int)):=(m.o.below g m.o.inside).int 2 bj;go_simp
 refine xO (.int .u64 (q:Int)) (λW g=> ?_) ?_
 .refine cZ (f:=167) (args:=(#[.agg (ai .i64 (dw b)),.int .u64 (x:Int),.int .i64 (d:Int)])) fN ?_;refine(M.o W).mono ?_;rintro e U ⟨rfl,r⟩;exact⟨rfl,g.trans (r.mono g.size)⟩
 refine mD (.int .u64 (u:Int)) ?_;refine mD (.int .u64 (u:Int)) ?_;refine q5 ?_;intro W5 s;have X:=aa (S.o.trans (s.mono S.o.size));clear s
 go_wp2_with fail
 go_ret
 exact⟨rfl,X.o⟩
end Go.Proofs.P
namespace Go.Proofs.P
open Go.ChangeShapes Go.WideShapes Go.ChangeAt
def Yz(x:String×Nat×List UInt8):String×DataW Unit:=(x.1,.iface "*errors.errorString" (.ptr (.agg [.lit (.string x.2.2)])))
theorem Dp(W:ay):∀(l:List (String×Nat×List UInt8)) (hl:∀x∈l,prog.globalNamed x.1=some x.2.1/\(prog.globals[x.2.1]?).map (·.type)=some 27) (ps:List MemPlace)
 (h:DataW.LaidVars prog W (l.map Yz) ps) (k:ps.Nodup)
 (d:∀b m,MemPlace.cell b m∈ps->(∃c t,W.heap[b]?=some (.cells c t (0,0)))/\ ∀u v,W.cell? ⟨b,m,none⟩=some (.iface u v)->Value.okWide prog W .any 0 u v),
 ∃L:List Addr,L.length=l.length/\L.Nodup/\(∀a∈L,MemPlace.cell a.block a.off∈ps)/\ ∀(i:Nat) (x:String×Nat×List UInt8) (a:Addr),l[i]?=some x->L[i]?=some a->W.cell? ⟨x.2.1,0,none⟩=some (bM a)
 | [],hl,ps,h,k,d=>⟨[],rfl,List.nodup_nil,bj,bj⟩
 |x::l,hl,ps,h,k,d=>by
  obtain⟨g,t,G,f,p,q,w,H,F,I,J,rfl⟩:=h;obtain⟨z,A⟩:=hl x bj;obtain rfl:=iU (z.symm.trans w);obtain rfl:=iU (A.symm.trans H);obtain⟨K⟩:=G
  have B:∀u v,K= [.iface u v]->Value.okWide prog W .any 0 u v:=λu v e=>by
   subst e;exact(d x.2.1 0 (by simp[MemPlace.row])).2 u v (by simpa using World.var?_cell w F 0)
  obtain⟨a,s,rfl,N,O,P,rfl⟩:=errorString_of_trod underlying27 acg underlying356 underlying374 rfl rfl underlying9 Yj Ym I B;have j:q.Sublist (MemPlace.row ⟨x.2.1,0,none⟩ (Array.mk [Value.iface 356 (.pointer (some a))]).size++MemPlace.row a 1++q):=List.sublist_append_right _ _;obtain⟨L,M,C,o,D⟩:=Dp W l (λy r=>hl y (by simp[r])) q J (List.Nodup.sublist j k) (λb m E=>d b m (j.subset E));refine⟨a::L,by simp[M],?_,?_,?_⟩
  .refine List.nodup_cons.2 ⟨λE=> ?_,C⟩;have Q:=o a E;simp[MemPlace.row]at k;simp_all
  .intro b n;rcases dz.1 n with rfl|n
   .simp[MemPlace.row]
   .exact j.subset (o b n)
  .intro i y b r n;cases i with
   |zero=>
    simp only[List.getElem?_cons_zero,Option.some.injEq]at r n;subst r n;simpa[bM]using World.var?_cell w F 0
   |succ i=>exact D i y b (ek r) (ek n)
def GD:List (String×Nat×List UInt8):= [("speakeasy/api.ErrArg",0,[97,110,32,97,114,103,117,109,101,110,116,32,116,104,97,116,32,109,97,121,32,110,111,116,32,98,101]),
 ("speakeasy/api.ErrEnd",1,[98,121,116,101,115,32,97,114,101,32,119,97,110,116,105,110,103]),
 ("speakeasy/api.ErrForm",2,[98,121,116,101,115,32,116,104,97,116,32,115,97,121,32,110,111,116,104,105,110,103]),
 ("speakeasy/api.ErrBig",3,[109,111,114,101,32,116,104,97,110,32,116,104,101,114,101,32,109,97,121,32,98,101]),
 ("speakeasy/api.ErrMac",4,[97,32,115,117,109,32,116,104,97,116,32,100,111,101,115,110,39,116,32,102,105,116]),
 ("speakeasy/api.ErrState",5,[110,111,116,32,110,111,119]),
 ("speakeasy/api.ErrFull",6,[116,104,101,114,101,32,105,115,32,110,111,32,114,111,111,109]),
 ("speakeasy/api.ErrNone",7,[116,104,101,114,101,32,105,115,32,110,111,110,101]),
 ("speakeasy/api.ErrHave",8,[105,116,32,105,115,32,116,104,101,114,101,32,97,108,114,101,97,100,121]),
 ("speakeasy/api.ErrKey",9,[97,32,107,101,121,32,116,104,97,116,32,109,97,121,32,110,111,116,32,98,101]),
 ("speakeasy/api.ErrSign",10,[97,32,115,105,103,110,97,116,117,114,101,32,116,104,97,116,32,100,111,101,115,110,39,116,32,102,105,116]),
 ("speakeasy/api.ErrVersion",11,[97,110,111,116,104,101,114,32,118,101,114,115,105,111,110]),
 ("speakeasy/api.ErrAlgo",12,[110,111,116,104,105,110,103,32,105,110,32,99,111,109,109,111,110]),
 ("speakeasy/api.ErrHost",13,[97,110,111,116,104,101,114,32,104,111,115,116,39,115,32,107,101,121]),
 ("speakeasy/api.ErrAuth",14,[105,116,32,109,97,121,32,110,111,116,32,99,111,109,101,32,105,110]),
 ("speakeasy/api.ErrQuota",15,[109,111,114,101,32,116,104,97,110,32,105,116,115,32,115,104,97,114,101]),
 ("speakeasy/api.ErrName",16,[97,32,110,97,109,101,32,116,104,97,116,32,109,97,121,32,110,111,116,32,98,101]),
 ("speakeasy/api.ErrGone",17,[105,116,32,105,115,32,103,111,110,101]),
 ("speakeasy/api.ErrWindow",18,[98,101,121,111,110,100,32,116,104,101,32,119,105,110,100,111,119]),
 ("speakeasy/api.ErrKind",19,[116,104,101,114,101,32,105,115,32,110,111,32,115,117,99,104,32,107,105,110,100])]
theorem JX:∀x∈GD,prog.globalNamed x.1=some x.2.1/\(prog.globals[x.2.1]?).map (·.type)=some 27:=by
 intro x a;simp only[GD,List.mem_cons,List.not_mem_nil,or_false]at a;rcases a with rfl|rfl|rfl|rfl|rfl|rfl|rfl|rfl|rfl|rfl|rfl|rfl|rfl|rfl|rfl|rfl|rfl|rfl|rfl|rfl
 .exact⟨UP,WF⟩
 .exact⟨UR,WI⟩
 .exact⟨QN,SS⟩
 .exact⟨UQ,WG⟩
 .exact⟨UT,WK⟩
 .exact⟨N1,OW⟩
 .exact⟨QO,SU⟩
 .exact⟨QV,Ta⟩
 .exact⟨QQ,SX⟩
 .exact⟨US,WJ⟩
 .exact⟨QW,Tb⟩
 .exact⟨GN,IS⟩
 .exact⟨QL,SQ⟩
 .exact⟨QR,SY⟩
 .exact⟨QM,SR⟩
 .exact⟨NZ,OV⟩
 .exact⟨QU,S9⟩
 .exact⟨QP,SW⟩
 .exact⟨J4,Lz⟩
 .exact⟨QT,SZ⟩
theorem UE{W}(h:laidMet prog (GD.map Yz) W):∃E:Nat->Addr,ts W E:=by
 obtain⟨o,p,f,b⟩:=h;obtain⟨L,q,g,k,l⟩:=Dp W GD JX o p f b;have n:L.length=20:=q;have a:∀i,i<20->L[i]?=some (L.getD i ⟨0,0,none⟩):=λi c=>by simp[List.getD,show i<L.length by omega]
 have r:∀i,i<20-> ∃x,GD[i]?=some x/\x.2.1=Cn i:=by
  intro i c;have:i=0\/i=1\/i=2\/i=3\/i=4\/i=5\/i=6\/i=7\/i=8\/i=9\/i=10\/i=11\/i=12\/i=13\/i=14\/i=15\/i=16\/i=17\/i=18\/i=19:=af;rcases this with rfl|rfl|rfl|rfl|rfl|rfl|rfl|rfl|rfl|rfl|rfl|rfl|rfl|rfl|rfl|rfl|rfl|rfl|rfl|rfl<;>exact⟨_,rfl,rfl⟩
 refine⟨λi=>L.getD i ⟨0,0,none⟩,λi c=> ?_,λi c=> ?_,λi j c s e=> ?_⟩
 .obtain⟨x,d,m⟩:=r i c;rw[<-m];exact l i x _ d (a i c)
 .exact(b _ _ (k _ (ah (a i c)))).1
 .have d:=a i c;have m:=a j s;change L.getD i ⟨0,0,none⟩=L.getD j ⟨0,0,none⟩at e;rw[e,<-m]at d;exact(List.getElem?_inj (i:=i) af g).1 d
end Go.Proofs.P
