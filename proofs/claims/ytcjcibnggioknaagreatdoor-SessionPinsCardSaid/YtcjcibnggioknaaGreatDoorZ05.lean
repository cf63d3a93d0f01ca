/- Lemmas on which SessionPins rests. -/
import Derived.Test.YtcjcibnggioknaaGreatDoorZ04
set_option maxRecDepth 100000
set_option maxHeartbeats 40000000
set_option linter.unusedVariables false
open Go.RowKit Go.Spk
open Go.Proofs.Tryz
namespace Go.Proofs.P
attribute [local go_sem ↓] li lm
attribute [local go_sem] cr cD
theorem uZ{a}{x}(q:Fe a x)(w:ay):
 Calls prog 57 #[.agg (ai .u64 a)] w (Ai (mulL a a) w):=by
 have f:=aa q;clear q
 go_enter func57,ntmps57
 go_upto_region 1 with(fail)
 refine aU (λW=>Below w.heap.size w W/\Whole W w.heap.size 50 (ai .u64 a)/\Whole W (w.heap.size+1) 50 (ai .u64 [0,0,0,0,0])) ⟨by go_grown,(Whole.new rfl rfl).alloc _,Whole.new bj rfl⟩ ?_;intro t ⟨g,b,h⟩;have i:=aa g;have j:=aa h;have u:=(At.j b).R (m:=5) (by rw[ag,f.o.len]);have v:=(At.j b).row (m:=5) (by rw[ag,f.o.len]);clear g b h
 go_wp2_with fail
 refine(jK f.o f.o _).mono ?_;rintro e w2 ⟨rfl,d⟩;have n:=dy f.o f.o;generalize mulL a a=c at*;have o:=j.o.below d j.o.inside;have y:=(At.j o).R (m:=5) (by rw[ag];rfl);have z:=bY .u64 c 5 n.len;have s:=aa n;have l:=aa (i.o.trans (d.mono i.o.size));have p:=aa o;clear d o n
 go_wp2_with fail
 refine ej rfl underlying50 rfl sW (w.heap.size+1) (ai .u64 c) _ rfl rfl p.o (by rw[ag];rfl) (by rw[ag,s.o.len]) ⟨rfl,?_⟩;exact l.o.grown (aG _ _ _ _) l.o.size (λk r=>by injection r with r;omega)
end Go.Proofs.P
namespace Go.Spk
def Jy(low a:Nat):Bool:=decide (8<=a)||decide (low/2^a %2=1)
def K8(x low:Nat):Nat->Nat
 |0=>1
 |k+1=>let s:=K8 x low k*K8 x low k %pF;if Jy low (254 -k)then s*x %pF else s
def rP(a:List Int)(low:Nat):Nat->List Int
 |0=> [1,0,0,0,0]
 |k+1=>let s:=mulL (rP a low k) (rP a low k);if Jy low (254 -k)then mulL s a else s
theorem wY{a}{x}(c:Fe a x)(low k:Nat):Fe (rP a low k) (K8 x low k):=by
 induction k with
 |zero=>
  show Fe [1,0,0,0,0] 1;exact va af af af af af af
 |succ k b=>
  have h:=dy b b;simp only[rP,K8]
  split
  .exact dy h c
  .exact h
end Go.Spk
namespace Go.Proofs.P
attribute [local go_sem ↓] li lm
attribute [local go_sem] cr cD
theorem sr{a:aR}{x:Nat}(ha:Fe a x)(b sh:Nat)(hl:b<=256)(hs:sh<=254)(w:ay):
 Calls prog 56 #[.agg (ai .u64 a),.int .u64 b,.int .i64 sh] w (Ai (rP a (256 -b) (255 -sh)) w):=by
 have J:=aa ha;have ao:=aa hs;have hw:IntKind.u64.wrap (256 -(b:Int))=((256 -b:Nat):Int):=by rw[bH];omega
 have K:=aa (af:256 -b<=256);clear ha hs hl
 go_enter func56,ntmps56
 go_upto_region 1 with(fail)
 refine aU (λW=>Below w.heap.size w W/\Whole W w.heap.size 50 (ai .u64 a)/\Whole W (w.heap.size+1) 50 (ai .u64 [0,0,0,0,0])) ⟨by go_grown,(Whole.new rfl rfl).alloc _,Whole.new bj rfl⟩ ?_;intro W0 ⟨L,M,N⟩;have O:=aa L;have P:=aa N;have Q:=aa M;clear L M N
 go_upto_region 2 with((refine(ew (n:=1) an _).mono ?_;rintro e w2 ⟨rfl,j⟩;obtain⟨c,u⟩:∃c:List Int,c= [((1:Nat):Int),0,0,0,0]:=⟨_,rfl⟩;rw[<-u];have B:Fe c 1:=u▸fD (n:=1) an;have av:=aa u;clear u;have p:=aa B;have R:=aa (O.o.trans (j.mono O.o.size));have S:=aa (P.o.below j P.o.inside);have ax:=aa (Q.o.below j Q.o.inside);have o:=Whole.new (w:=w2) (g:=w2.heap.size) (t:=50) (cs:= #[bO,bO,bO,bO,bO]) rfl rfl;have l3:=(At.j o).R (m:=5) rfl;have U:=bY .u64 c 5 B.len;have HG:=aa o;have l:=aa (show w.heap.size+1<w2.heap.size from S.o.inside);clear j B o))
 clear l3 U;refine aU (λW=>Below w.heap.size w W/\Whole W w.heap.size 50 (ai .u64 a)/\Whole W (w.heap.size+1) 50 (ai .u64 [0,0,0,0,0])/\Whole W w2.heap.size 50 (ai .u64 c)) ?_ ?_
 .have o:=aG w2.heap.size (ai .u64 c).toList 0 (w2.alloc (.cells (ai .u64 [0,0,0,0,0]) 50));have h1:=(R.o.alloc R.o.size (.cells (ai .u64 [0,0,0,0,0]) 50));exact⟨h1.grown o h1.size (λq z=>by injection z with z;have:=l.o;omega),(ax.o.alloc _).only o (λe=>by injection e with e;have:=l.o;omega),(S.o.alloc _).only o (λe=>by injection e with e;have:=l.o;omega),HG.o.fill (by rw[ag,p.o.len];rfl)⟩
 intro W3 ⟨V,X,Y,A⟩;have H:=aa V;have KA:=aa X;have I:=aa Y;have KC:=aa A;clear V X Y A;generalize az:w2.heap.size=go at*;clear az
 go_wp2_with fail
 generalize Z:256 -b=low at*;clear hw Z
 go_loopw [9] (λi wr=> ∃m:Nat,sh<=m/\m<=255/\i= .int .i64 ((m:Int) -1)/\Below w.heap.size w wr/\Whole wr w.heap.size 50 (ai .u64 a)/\Whole wr (w.heap.size+1) 50 (ai .u64 [0,0,0,0,0])/\Whole wr go 50 (ai .u64 (rP a low (255 -m)))) (λi _=>(intOf i+1).toNat)
 case atStart=>exact⟨255,by have:=ao.o;omega,af,rfl,H.o,KA.o,I.o,by have h:=KC.o;rw[av.o]at h;exact h⟩
 case round=>
  obtain⟨m,a0,aB,rfl,V,X,Y,A⟩:=hrel;have B:=wY J.o low (255 -m);obtain⟨c,C⟩:=aP (rP a low (255 -m));rw[<-C]at B A;have ab:=aa C;clear C;have H:=aa V;have KA:=aa X;have I:=aa Y;have KC:=aa A;have p:=aa B;have l1:=(At.j A).R (m:=5) (by rw[ag,p.o.len]);have r1:=(At.j A).row (m:=5) (by rw[ag,p.o.len]);clear V X Y A B
  by_cases aC:sh=m
  .subst aC;have a1:¬((sh:Int)<=(sh:Int) -1):=af;have l2:=(At.j I.o).R (m:=5) (by rw[ag];rfl);have U:=bY .u64 c 5 p.o.len
   go_wp2_with fail
   refine ej rfl underlying50 rfl sW (w.heap.size+1) (ai .u64 c) _ rfl rfl I.o (by rw[ag];rfl) (by rw[ag,p.o.len]) ⟨by rw[ab.o],?_⟩;exact H.o.grown (aG _ _ _ _) H.o.size (λk hk=>by injection hk with hk;omega)
  .obtain⟨n,rfl⟩:∃n,m=n+1:=⟨m -1,af⟩;have i1:((n+1:Nat):Int) -1=n:=af;have i2:(sh:Int)<=n:=af;have HN:=aa (af:255 -n=(255 -(n+1))+1/\254 -(255 -(n+1))=n);have HM:=aa aB
   go_upto_region 7 with((refine(uZ p.o _).mono ?_;rintro e w2 ⟨rfl,j⟩;obtain⟨d,v⟩:=aP (mulL c c);rw[<-v];have hd:Fe d _:=v▸dy p.o p.o;have aE:=aa v;clear v;have D:=aa hd;have ad:=aa (H.o.trans (j.mono H.o.size));have aF:=aa (KA.o.below j KA.o.inside);have aK:=aa (I.o.below j I.o.inside);have E:=KC.o.below j KC.o.inside;have aS:=aa E;have l1:=(At.j E).R (m:=5) (by rw[ag,p.o.len]);have U:=bY .u64 d 5 hd.len;clear j hd E))
   clear l1 U r1;refine aU (λW=>Below w.heap.size w W/\Whole W w.heap.size 50 (ai .u64 a)/\Whole W (w.heap.size+1) 50 (ai .u64 [0,0,0,0,0])/\Whole W go 50 (ai .u64 d)) ?_ ?_
   .have o:=aG go (ai .u64 d).toList 0 w2;exact⟨ad.o.grown o ad.o.size (λq z=>by injection z with z;have:=l.o;omega),aF.o.only o (λe=>by injection e with e;have:=l.o;omega),aK.o.only o (λe=>by injection e with e;have:=l.o;omega),aS.o.fill (by rw[ag,ag,p.o.len,D.o.len])⟩
   intro W4 ⟨jB,jA,jR,jC⟩;have JB:=aa jB;have JA:=aa jA;have JR:=aa jR;have JC:=aa jC
   have aj:=aa (show rP a low (255 -n)=(if Jy low n then mulL d a else d) by
    rw[HN.o.1,rP,HN.o.2,<-ab.o,<-aE.o])
   have l1:=(At.j jC).R (m:=5) (by rw[ag,D.o.len]);have r1:=(At.j jC).row (m:=5) (by rw[ag,D.o.len]);have l2:=(At.j jA).R (m:=5) (by rw[ag,J.o.len]);have r2:=(At.j jA).row (m:=5) (by rw[ag,J.o.len]);clear jB jA jR jC
   by_cases s:Jy low n=true
   .have F:=aa s
    have hw:(8:Int)<=n\/(¬(8:Int)<=n/\bits BinOp.and IntKind.u64 ((low:Int)/2^n) 1=1):=by
     by_cases h8:8<=n
     .exact .inl af
     .refine .inr ⟨af,?_⟩;unfold Jy at s;simp only[h8,decide_false,Bool.false_or,decide_eq_true_eq]at s;rw[show((low:Int)/2^n)=((low/2^n:Nat):Int) by simp,show(1:Int)=((1:Nat):Int)from rfl,lz _ _ (gX (pz _ _) (dp K.o)) an,nat_mask1,s]
    clear s;rcases hw with i3|⟨i3,i4⟩
    all_goals
     go_wp2_with ((refine(jK D.o J.o _).mono ?_;rintro e w3 ⟨rfl,r⟩;obtain⟨f,y⟩:=aP (mulL d a);rw[<-y];have hf:Fe f _:=y▸dy D.o J.o;have aV:=aa y;clear y;have HF:=aa hf;have al:=aa (JB.o.trans (r.mono JB.o.size));have aX:=aa (JA.o.below r JA.o.inside);have aY:=aa (JR.o.below r JR.o.inside);have G:=JC.o.below r JC.o.inside;have aZ:=aa G;have l1:=(At.j G).R (m:=5) (by rw[ag,D.o.len]);have U:=bY .u64 f 5 hf.len;clear r hf G))
     go_roundw
     case rel=>
      have o:=aG go (ai .u64 f).toList 0 w3;exact⟨n,af,by have:=HM.o;omega,rfl,al.o.grown o al.o.size (λq z=>by injection z with z;have:=l.o;omega),aX.o.only o (λe=>by injection e with e;have:=l.o;omega),aY.o.only o (λe=>by injection e with e;have:=l.o;omega),by rw[aj.o,aJ F.o,<-aV.o];exact aZ.o.fill (by rw[ag,ag,HF.o.len,D.o.len])⟩
     case measure=>simp[intOf]
   .have F:=aa s;have h8:¬8<=n:=λh=>s (by unfold Jy;simp[h]);have i3:¬(8:Int)<=n:=af
    have i4:bits BinOp.and IntKind.u64 ((low:Int)/2^n) 1=0:=by
     unfold Jy at s;simp only[h8,decide_false,Bool.false_or,decide_eq_true_eq]at s;rw[show((low:Int)/2^n)=((low/2^n:Nat):Int) by simp,show(1:Int)=((1:Nat):Int)from rfl,lz _ _ (gX (pz _ _) (dp K.o)) an,nat_mask1];omega
    clear s
    go_wp2_with fail
    go_roundw
    case rel=>exact⟨n,af,by have:=HM.o;omega,rfl,JB.o,JA.o,JR.o,by rw[aj.o,aq F.o];exact JC.o⟩
    case measure=>simp[intOf]
end Go.Proofs.P
namespace Go.Spk
theorem Nb(b:aR)(h:∀i,0<=ix b i/\ix b i<9223372036854775808)(k:Nat):0<=o3 b k/\o3 b k<=4096:=by
 induction k with
 |zero=>show(0:Int)<=19/\(19:Int)<=4096;omega
 |succ k a=>rw[o3];have:=h k;omega
def uN(x:Nat):Nat:=K8 x 235 255
def GX(a:List Int):List Int:=rP a 235 255
theorem yd{a}{x}(b:Fe a x):Fe (GX a) (uN x):=wY b 235 255
end Go.Spk
namespace Go.Proofs.P
attribute [local go_sem ↓] li lm FM
attribute [local go_sem] cr cD
theorem oH{a}{x}(q:Fe a x)(w:ay):
 Calls prog 27 #[.agg (ai .u64 a)] w (Ai (GX a) w):=by
 have l:=aa q;clear q
 go_enter func27,ntmps27
 go_upto_region 1 with(fail)
 refine aU (λW=>Below w.heap.size w W/\Whole W w.heap.size 50 (ai .u64 a)/\Whole W (w.heap.size+1) 50 (ai .u64 [0,0,0,0,0])) ⟨by go_grown,(Whole.new rfl rfl).alloc _,Whole.new bj rfl⟩ ?_;intro t ⟨f,b,g⟩;have h:=aa f;have i:=aa g;have u:=(At.j b).R (m:=5) (by rw[ag,l.o.len]);have v:=(At.j b).row (m:=5) (by rw[ag,l.o.len]);clear f b g
 go_wp2_with fail
 refine(sr l.o 21 0 an an _).mono ?_;rw[show rP a (256 -21) (255 -0)=GX a from rfl];rintro e w2 ⟨rfl,d⟩;have n:=yd l.o;generalize GX a=c at*;have o:=i.o.below d i.o.inside;have y:=(At.j o).R (m:=5) (by rw[ag];rfl);have z:=bY .u64 c 5 n.len;have s:=aa n;have j:=aa (h.o.trans (d.mono h.o.size));have p:=aa o;clear d o n
 go_wp2_with fail
 refine ej rfl underlying50 rfl sW (w.heap.size+1) (ai .u64 c) _ rfl rfl p.o (by rw[ag];rfl) (by rw[ag,s.o.len]) ⟨rfl,?_⟩;exact j.o.grown (aG _ _ _ _) j.o.size (λk r=>by injection r with r;omega)
theorem nj{a:aR}{y:Nat}(M:Fe a y)(w:ay):
 Calls prog 61 #[.agg (ai .u64 a)] w λe w'=>e= .returned (.agg (ai .u64 (fB y)))/\Below w.heap.size w w':=by
 have N:=aa (show E8 a=fB y from Rk M);have h:=aa M;clear M
 go_enter func61,ntmps61
 go_upto_region 1 with(fail)
 refine aU (λW=>Below w.heap.size w W/\Whole W w.heap.size 50 (ai .u64 a)/\Whole W (w.heap.size+1) 50 (ai .u64 [0,0,0,0,0])) ⟨by go_grown,(Whole.new rfl rfl).alloc _,Whole.new bj rfl⟩ ?_;intro W0 ⟨p,g,r⟩;have s:=aa p;have u:=aa r;have v:=aa g;have z:=(At.j g).R (m:=5) (by rw[ag,h.o.len]);have H:=(At.j g).row (m:=5) (by rw[ag,h.o.len]);clear p g r
 go_wp2_with fail
 refine(lE a h.o.len h.o.vX _).mono ?_;rintro e w1 ⟨rfl,j⟩;have l:=aa (kq h.o)
 go_wp2_with fail
 refine(lE (bU a) l.o.len l.o.vX _).mono ?_;rintro e w2 ⟨rfl,A⟩;have I:=j.trans (A.mono j.size);have B:=kq l.o;have f:=aa B;have n:=v.o.below I v.o.inside;have O:=aa n;have P:=aa (u.o.below I u.o.inside);have C:=aa (s.o.trans (I.mono s.o.size));have z:=(At.j n).R (m:=5) (by rw[ag,h.o.len]);have ro:=bY .u64 (bU (bU a)) 5 B.len;have Q:=aa (show E8 a=iz ((bU (bU a)).set 0 (ix (bU (bU a)) 0+o3 (bU (bU a)) 5*19)) 5 from rfl);clear j A I n B;generalize bU (bU a)=b at*
 go_upto_region 2 with(fail)
 clear z ro H;refine aU (λW=>Below w.heap.size w W/\Whole W w.heap.size 50 (ai .u64 b)/\Whole W (w.heap.size+1) 50 (ai .u64 [0,0,0,0,0])) ?_ ?_
 .have hg:=aG w.heap.size (ai .u64 b).toList 0 w2;exact⟨C.o.grown hg C.o.size (λq hq=>by injection hq with hq;omega),O.o.fill (by rw[ag,ag,f.o.len,h.o.len]),P.o.only hg bj⟩
 intro R ⟨kB,J,kR⟩;have KB:=aa kB;have S:=aa J;have KR:=aa kR;have z:=(At.j J).R (m:=5) (by rw[ag,f.o.len]);have H:=(At.j J).row (m:=5) (by rw[ag,f.o.len]);clear kB J kR
 go_wp2_with fail
 clear z H
 go_loop [3,12] (λc i=> ∃k:Nat,k<=5/\i= .int .i64 k/\c= .int .u64 (o3 b k)) (λ_ i=>5 -(intOf i).toNat)
 case atStart=>exact⟨0,af,rfl,rfl⟩
 case round=>
  obtain⟨k,K,rfl,rfl⟩:=hrel
  by_cases D:k<5
  .have i1:(k:Int)<5:=af;have g1:=vP f.o.len k D R;have V:=Nb b f.o.vX k;have X:=f.o.vX k;have HT:=aa (show o3 b (k+1)=(ix b k+o3 b k)/2251799813685248 from rfl);generalize o3 b k=c at*;generalize ix b k=x at*;obtain⟨Y,Z⟩:=V;obtain⟨ab,ad⟩:=X
   go_wp2_with fail
   go_round
   case rel=>exact⟨k+1,af,by go_num,by rw[HT.o]⟩
   case measure=>simp[intOf];omega
  .obtain rfl:k=5:=af;have V:=Nb b f.o.vX 5;have X:=f.o.vX 0;generalize o3 b 5=t at*;have c0:=S.o.int 0 (by rw[f.o.len];decide);have f0:=S.o.free 0;have E:=aa ((eU.start S.o).set 0 (ix b 0+t*19));have F:=aa (by rw[dx,f.o.len]:(b.set 0 (ix b 0+t*19)).length=5)
   have G:=aa (show∀i,0<=ix (b.set 0 (ix b 0+t*19)) i/\ix (b.set 0 (ix b 0+t*19)) i<9223372036854775808 from λi=>by
    rw[lW _ _ _ _ (by rw[f.o.len];decide)];have D:=f.o.hi 0
    split
    .omega
    .exact f.o.vX i)
   generalize B:b.set 0 (ix b 0+t*19)=d at*;clear B;generalize ix b 0=x at*;obtain⟨Y,Z⟩:=V;obtain⟨ab,ad⟩:=X;clear D
   go_wp2_with fail
   generalize R.setCell _ _=W4 at E⊢;clear c0 f0
   go_loopw [3,28] (λc i wr=> ∃k:Nat,k<=5/\i= .int .i64 k/\c= .int .u64 (dG d k)/\eU R wr w.heap.size 50 .u64 (iz d k)) (λ_ i _=>5 -(intOf i).toNat)
   case atStart=>exact⟨0,af,rfl,rfl,E.o⟩
   case round=>
    obtain⟨k,K,rfl,rfl,U⟩:=hrel;have L:=aa U;have aj:=aa (by rw[qM,F.o]:(iz d k).length=5);clear U;have al:=L6 d G.o k;obtain⟨ax,az⟩:=al
    by_cases D:k<5
    .have i1:(k:Int)<5:=af;have cO:=L.o.cell k (by rw[aj.o];exact D);rw[L7 d k (by rw[F.o];omega) k (ak _)]at cO;have fO:=L.o.frozen k;obtain⟨aB,aC⟩:=G.o k;have an:=aa (show dG d (k+1)=(ix d k+dG d k)/2251799813685248 from rfl);have ao:=aa (show iz d (k+1)=(iz d k).set k ((ix d k+dG d k) %2251799813685248)from rfl);generalize dG d k=c at*;generalize ix d k=x at*;have av:=LX (x+c) af af
     go_wp2_with fail
     go_roundw
     case rel=>exact⟨k+1,af,by go_num,by rw[an.o],by rw[ao.o];exact(L.o.abe k _ _)⟩
     case measure=>simp[intOf];omega
    .obtain rfl:k=5:=af;have o:=L.o;rw[<-Q.o,N.o]at o;have hr:=o.other KR.o af;have z:=(At.j o.et).R (m:=5) (by rw[ag];rfl);have l2:=(At.j hr).R (m:=5) (by rw[ag];rfl);have H:=(At.j o.et).row (m:=5) (by rw[ag];rfl);have ro:=bY .u64 (fB y) 5 rfl;have HR:=aa hr;have HB:=aa (o.below KB.o (ak _) KB.o.size);clear o hr
     go_wp2_with fail
     refine ej rfl underlying50 rfl sW (w.heap.size+1) (ai .u64 (fB y)) _ rfl rfl HR.o (by rw[ag];rfl) (by rw[ag];rfl) ⟨rfl,?_⟩;exact HB.o.grown (aG _ _ _ _) HB.o.size (λk K=>by injection K with K;omega)
end Go.Proofs.P
namespace Go.Proofs.P
attribute [local go_sem ↓] li lm FM
attribute [local go_sem] cr cD
theorem Dn{a b}(c:a.length=5)(d:b.length=5)(w:ay):(Op.equalIn 9999 48 (.agg ((ai .u64 a).extract 0 5)) (.agg ((ai .u64 b).extract 0 5))).run prog w= .ok (decide (a=b)) w:=by
 have k:=rQ (k:= .u64) isAgg47 sizeOf47 underlying48 underlying47 a b c d 9997 w
 have e:(ai .u64 a).extract 0 5=ai .u64 a:=by
  obtain⟨f,g,h,i,j,rfl⟩:=qa c;rfl
 have l:(ai .u64 b).extract 0 5=ai .u64 b:=by
  obtain⟨f,g,h,i,j,rfl⟩:=qa d;rfl
 rw[e,l];exact k
theorem AO:prog.eqGuardType prog.depth 50=false:=al
theorem GK{a}{x}(n:Fe a x)(w:ay):
 Calls prog 215 #[.agg (ai .u64 a)] w λe p=>e= .returned (.bool (decide (x=0)))/\Below w.heap.size w p:=by
 have j:=aa n;clear n;have r:=AO
 go_enter func215,ntmps215
 go_upto_region 1 with(fail)
 refine aU (λW=>Below w.heap.size w W/\Whole W w.heap.size 50 (ai .u64 a)) ⟨by go_grown,Whole.new rfl rfl⟩ ?_;intro s ⟨d,c⟩;have f:=aa d;have t:=(At.j c).R (m:=5) (by rw[ag,j.o.len]);have u:=(At.j c).row (m:=5) (by rw[ag,j.o.len]);clear d c
 go_wp2_with fail
 refine(nj j.o _).mono ?_;rintro e w2 ⟨rfl,g⟩;have o:=λw=>Dn (a:=fB x) (b:= [0,0,0,0,0]) rfl rfl w;rw[show decide (fB x= [0,0,0,0,0])=decide (x=0)from decide_eq_decide.2 ⟨λh=>DG (y:=0) h,λh=>by rw[h];rfl⟩]at o;rw[show(ai .u64 [0,0,0,0,0]).extract 0 5= #[bO,bO,bO,bO,bO]from rfl]at o;have k:=aa (f.o.trans (g.mono f.o.size));clear g;generalize fB x=L at*;generalize i:decide (x=0)=q at*;have l:=aa i;clear i;cases q
 all_goals
  go_wp2_with fail
  go_ret
  exact⟨by rw[l.o];rfl,k.o⟩
theorem ON(x:Nat)(w:ay):(Instr.index 48 (.agg (ai .u64 (fB x))) (.int .i64 0)).run prog w= .ok (.int .u64 ((x %2251799813685248:Nat):Int)) w:=by
 show _=_;kernel_rfl
theorem Lj{a}(b:a.length=5)(w:ay):(Instr.field 50 (.agg (ai .u64 a)) 0).run prog w= .ok (.agg (ai .u64 a)) w:=by
 obtain⟨c,d,e,f,g,rfl⟩:=qa b;show _=_;kernel_rfl
theorem sq{a}{x}(k:Fe a x)(w:ay):
 Calls prog 36 #[.agg (ai .u64 a)] w λe n=>e= .returned (.bool (decide (x %2=1)))/\Below w.heap.size w n:=by
 have i:=aa k;clear k
 go_enter func36,ntmps36
 go_upto_region 1 with(fail)
 refine aU (λW=>Below w.heap.size w W/\Whole W w.heap.size 50 (ai .u64 a)) ⟨by go_grown,Whole.new rfl rfl⟩ ?_;intro o ⟨c,b⟩;have d:=aa c;have p:=(At.j b).R (m:=5) (by rw[ag,i.o.len]);have q:=(At.j b).row (m:=5) (by rw[ag,i.o.len]);clear c b
 go_wp2_with fail
 refine(nj i.o _).mono ?_;rintro e w2 ⟨rfl,f⟩;have r:=Lj (a:=fB x) rfl;have s:=ON x;have g:=aa (d.o.trans (f.mono d.o.size));clear f
 have l:bits BinOp.and IntKind.u64 ((x %2251799813685248:Nat):Int) 1=((x %2:Nat):Int):=by
  rw[show(1:Int)=((1:Nat):Int)from rfl,lz _ _ af an,nat_mask1];omega
 generalize fB x=L at*;generalize x %2251799813685248=y at*
 by_cases h:x %2=1
 .have j:=aa (by simpa using h:decide (x %2=1)=true);rw[h]at l;clear h
  go_wp2_with fail
  go_ret
  exact⟨by rw[j.o];rfl,g.o⟩
 .have j:=aa (by simpa using h:decide (x %2=1)=false);rw[show x %2=0 by omega]at l;clear h
  go_wp2_with fail
  go_ret
  exact⟨by rw[j.o];rfl,g.o⟩
theorem qO{a b}{x y}(u:Fe a x)(d:Fe b y)(w:ay):
 Calls prog 86 #[.agg (ai .u64 a),.agg (ai .u64 b)] w λe B=>e= .returned (.bool (decide (x=y)))/\Below w.heap.size w B:=by
 have v:=aa u;have z:=aa d;clear u d;have F:=AO
 go_enter func86,ntmps86
 go_upto_region 1 with(fail)
 refine aU (λW=>Below w.heap.size w W/\Whole W w.heap.size 50 (ai .u64 a)/\Whole W (w.heap.size+1) 50 (ai .u64 b)) ⟨by go_grown,(Whole.new rfl rfl).alloc _,Whole.new bj rfl⟩ ?_;intro A ⟨g,i,j⟩;have k:=aa g;have l:=aa i;have m:=aa j;have q:=aa (by rw[ag,v.o.len];kernel_rfl:(prog.info? 50).map (·.size)=some (ai .u64 a).size);have r:=aa (by rw[ag,z.o.len];kernel_rfl:(prog.info? 50).map (·.size)=some (ai .u64 b).size);have C:=λw=>Dn (a:=fB x) (b:=fB y) rfl rfl w;rw[show decide (fB x=fB y)=decide (x=y)from decide_eq_decide.2 ⟨λh=>DG h,λh=>by rw[h]⟩]at C;clear g i j;generalize n:decide (x=y)=s at*;have t:=aa n;clear n
 all_goals
  refine iI (λW=>Below A.heap.size A W) al al (bA (aw _ _) 1) ?_;refine e9 (λK o=> ?_);refine jo al 50 (.tmp 2) rfl w.heap.size 0 rfl (ai .u64 a) _ (λW c=>(At.j l.o).below c l.o.inside) underlying50 rfl q.o ?_;go_simp;refine o _ ?_;clear o K;refine xO (.agg (ai .u64 (fB x))) (λW c=> ?_) ?_
  .refine cZ (f:=61) (args:=(#[.agg (ai .u64 a)])) fN ?_;refine(nj v.o W).mono ?_;rintro e D ⟨rfl,d⟩;exact⟨rfl,c.trans (d.mono c.size)⟩
  refine e9 (λK o=> ?_);refine jo al 50 (.tmp 3) rfl (w.heap.size+1) 0 rfl (ai .u64 b) _ (λW c=>(At.j m.o).below c m.o.inside) underlying50 rfl r.o ?_;go_simp;refine o _ ?_;clear o K;refine xO (.agg (ai .u64 (fB y))) (λW c=> ?_) ?_
  .refine cZ (f:=61) (args:=(#[.agg (ai .u64 b)])) fN ?_;refine(nj z.o W).mono ?_;rintro e D ⟨rfl,d⟩;exact⟨rfl,c.trans (d.mono c.size)⟩
  generalize fB x=G at*;generalize fB y=H at*;refine xO (.bool s) (λW c=>aD ?_) ?_
  .go_simp;cases s<;>rfl
  refine mD (.bool s) ?_;refine q5 ?_;intro I p;have E:=aa (k.o.trans (p.mono k.o.size));clear p
  go_wp2_with fail
  go_ret
  exact⟨by rw[t.o];rfl,E.o⟩
end Go.Proofs.P
namespace Go.Spk
def ep(x k:Nat):Nat:=x/2^k %2
theorem wj(x k:Nat):ep x k<=1:=by unfold ep;omega
theorem Rv(x k:Nat):x %2^(k+1)=x %2^k+ep x k*2^k:=by
 unfold ep;rw[Nat.pow_succ,Nat.mod_mul,jt (2^k)]
theorem uC(x k m:Nat)(h:m<=k):x %2^k/2^m=x/2^m %2^(k -m):=by
 rw[show 2^k=2^m*2^(k -m) by rw[<-ly];congr 1;omega,Nat.mod_mul_right_div_self]
theorem Hy(x k m:Nat)(h:k<=m):x %2^k/2^m=0:=by
 apply oa;exact aL (fF _ (gR k)) (es an h)
def oo(x k m j:Nat):Nat:=x %2^k/2^(m*j) %2^m
theorem NT(x k m j:Nat)(hm:0<m):oo x (k+1) m j=oo x k m j+if j=k/m then ep x k*2^(k %m)else 0:=by
 unfold oo;have a:=Nat.div_add_mod k m;have g:=fF k hm
 by_cases c1:j=k/m
 .subst c1;rw[aJ rfl,uC _ _ _ af,uC _ _ _ af];have b:k+1 -m*(k/m)=k %m+1:=af;have c:k -m*(k/m)=k %m:=af;rw[b,c,Rv]
  have d:ep (x/2^(m*(k/m))) (k %m)=ep x k:=by
   unfold ep;rw[bQ,<-ly,a]
  rw[d];have i:x/2^(m*(k/m)) %2^(k %m)<2^(k %m):=fF _ (gR _);have e:2^(k %m+1)<=2^m:=es an af;have f:=wj x k
  have l:ep x k*2^(k %m)<=2^(k %m):=by
   have:=Nat.mul_le_mul_right (2^(k %m)) f;omega
  rw[Nat.pow_succ]at e;generalize x/2^(m*(k/m)) %2^(k %m)=u at*;generalize ep x k*2^(k %m)=v at*;generalize 2^(k %m)=r at*;generalize 2^m=q at*;rw[ig (af:u+v<q),ig (af:u<q)]
 .simp only[if_neg c1];show _=x %2^k/2^(m*j) %2^m
  by_cases c2:m*j<=k
  .have c3:m*j+m<=k:=by
    have:j<k/m:=by
     rcases Nat.lt_or_ge j (k/m)with h|h
     .exact h
     .have:k/m+1<=j:=af;have:=Nat.mul_le_mul_left m this;rw[Nat.mul_add]at this;omega
    have:=Nat.mul_le_mul_left m (af:j+1<=k/m);rw[Nat.mul_add]at this;omega
   rw[uC _ _ _ af,uC _ _ _ c2];rw[Nat.mod_mod_of_dvd _ (Nat.pow_dvd_pow 2 af),Nat.mod_mod_of_dvd _ (Nat.pow_dvd_pow 2 af)]
  .rw[Hy _ _ _ af,Hy _ _ _ af]
theorem Di(x k m:Nat):oo x k m (k/m)<2^(k %m):=by
 unfold oo;have a:=Nat.div_add_mod k m;rw[uC _ _ _ af,show k -m*(k/m)=k %m by omega];exact gX (Nat.mod_le _ _) (fF _ (gR _))
theorem GZ(a b r:Nat)(h:a<2^r):a|||b*2^r=a+b*2^r:=by
 rw[Nat.or_comm,<-Nat.shiftLeft_eq,<-Nat.shiftLeft_add_eq_or_of_lt h,Nat.add_comm]
def sj(x k m n:Nat):List Int:=(List.range n).map λj=>((oo x k m j:Nat):Int)
theorem dV(x k m n:Nat):(sj x k m n).length=n:=by simp[sj]
theorem uv(x k m n j:Nat)(h:j<n):ix (sj x k m n) j=((oo x k m j:Nat):Int):=by simp[ix,sj,h]
theorem Dj(x k m n:Nat)(hm:0<m)(h:k/m<n):sj x (k+1) m n=(sj x k m n).set (k/m) ((oo x k m (k/m)+ep x k*2^(k %m):Nat):Int):=by
 apply sv
 .simp[dV]
 .intro i a;rw[dV]at a;rw[lW _ _ _ _ (by rw[dV];exact h),uv _ _ _ _ _ a,NT _ _ _ _ hm]
  by_cases c:i=k/m
  .subst c;simp
  .rw[aq c,aq c,uv _ _ _ _ _ a,vr]
theorem Dk(x m n:Nat):sj x 0 m n=List.replicate n 0:=by
 apply sv
 .simp[dV]
 .intro i a;rw[dV]at a;rw[uv _ _ _ _ _ a];simp[oo,ix,a,Nat.mod_one]
theorem Rn(x k:Nat)(h:k<255):ep ((ix (fB x) (k/51)).toNat) (k %51)=ep x k:=by
 have a:k/51=0\/k/51=1\/k/51=2\/k/51=3\/k/51=4:=af;have b:=Nat.div_add_mod k 51;have c:=fF k (an:0<51)
 have key:∀y,ep (y %2251799813685248) (k %51)=ep y (k %51):=λy=>by
  unfold ep;rw[show 2251799813685248=2^51 from rfl,uC _ _ _ af];rw[show 2=2^1 from rfl,Nat.mod_mod_of_dvd _ (Nat.pow_dvd_pow 2 af)]
 have sh:∀m,ep (x/2^m) (k %51)=ep x (m+k %51):=λm=>by
  unfold ep;rw[bQ,<-ly]
 rcases a with e|e|e|e|e<;>rw[e]at b⊢
 .show ep (((x %2251799813685248:Nat):Int).toNat) _=_;rw[cW,key];congr 1;omega
 .show ep (((x/2251799813685248 %2251799813685248:Nat):Int).toNat) _=_;rw[cW,key,show 2251799813685248=2^51 from rfl,sh];congr 1
 .show ep (((x/2251799813685248/2251799813685248 %2251799813685248:Nat):Int).toNat) _=_;rw[cW,key,bQ,show 2251799813685248*2251799813685248=2^102 from rfl,sh];congr 1
 .show ep (((x/2251799813685248/2251799813685248/2251799813685248 %2251799813685248:Nat):Int).toNat) _=_;rw[cW,key,bQ,bQ,show 2251799813685248*2251799813685248*2251799813685248=2^153 from rfl,sh];congr 1
 .show ep (((x/2251799813685248/2251799813685248/2251799813685248/2251799813685248:Nat):Int).toNat) _=_;rw[cW,bQ,bQ,bQ,show 2251799813685248*2251799813685248*2251799813685248*2251799813685248=2^204 from rfl,sh];congr 1
def eE(x:Nat):List Int:=sj x 255 8 32
end Go.Spk
namespace Go.Proofs.P
section
variable {d:Tmp}{x y:Operand}{ty:TypeId}{pos:String}{after:Array Edge}{gd:Option (Nat×Bool)}{a:Go.Act}{w:World}{K:Go.Act->World->Prop}{Q:Exit->Go.Act->World->Prop}
theorem iw(b:jQ w (a.eval x) 32):Oper.wp prog ⟨some d,.load 22 x,ty,pos,after,gd⟩ a w K Q=K (a.put (some d) (jx w (a.eval x) 32)) w:=iS underlying22 rfl al b
theorem iy(b:jQ w (a.eval x) 32)(c:mZ 32 (a.eval y)):Oper.wp prog ⟨none,.store 22 x y,ty,pos,after,gd⟩ a w K Q=K (a.put none undef) (w.setCells (lY (a.eval x)) (lZ (a.eval x)) (a.eval y).cells.toList):=lj al b c
end
attribute [local go_sem ↓] li lm iw iy
attribute [local go_sem] cr cD
theorem gE:(prog.info? 22).map (·.size)=some 32:=al
theorem Yd(L r:Nat)(a:L<18446744073709551616):bits BinOp.and IntKind.u64 ((L:Int)/2^r) 1=((ep L r:Nat):Int):=by
 rw[show((L:Int)/2^r)=((L/2^r:Nat):Int) by simp,show(1:Int)=((1:Nat):Int)from rfl,lz _ _ (gX (pz _ _) a) an,nat_mask1]
 rfl
theorem wB{a:aR}{x:Nat}(ha:Fe a x)(w:ay):
 Calls prog 35 #[.agg (ai .u64 a)] w λe w'=>e= .returned (.agg (ai .u8 (eE x)))/\Below w.heap.size w w':=by
 have z:=aa ha;clear ha
 go_enter func35,ntmps35
 go_upto_region 1 with(fail)
 refine aU (λW=>Below w.heap.size w W/\Whole W w.heap.size 50 (ai .u64 a)/\Whole W (w.heap.size+1) 22 (ai .u8 (List.replicate 32 0))) ⟨by go_grown,(Whole.new rfl rfl).alloc _,Whole.new bj rfl⟩ ?_;intro W0 ⟨C,l,D⟩;have E:=aa C;have F:=aa D;have G:=aa l;have Q:=(At.j l).R (m:=5) (by rw[ag,z.o.len]);have r1:=(At.j l).row (m:=5) (by rw[ag,z.o.len]);clear C l D
 go_wp2_with fail
 refine(nj z.o _).mono ?_;rintro e w2 ⟨rfl,n⟩;have r:=G.o.below n G.o.inside;have R:=aa r;have H:=aa (F.o.below n F.o.inside);have I:=aa (E.o.trans (n.mono E.o.size));have Q:=(At.j r).R (m:=5) (by rw[ag,z.o.len]);have ro:=bY .u64 (fB x) 5 rfl;clear n r
 go_upto_region 3 with(fail)
 clear Q ro r1;refine aU (λW=>Below w.heap.size w W/\Whole W w.heap.size 50 (ai .u64 (fB x))/\Whole W (w.heap.size+1) 22 (ai .u8 (List.replicate 32 0))/\Whole W w2.heap.size 22 (ai .u8 (List.replicate 32 0))) ?_ ?_
 .have hg:=aG w.heap.size (ai .u64 (fB x)).toList 0 w2;have N:=I.o.grown hg I.o.size (λq hq=>by injection hq with hq;omega);exact⟨N.alloc N.size _,(R.o.fill (by rw[ag,ag,z.o.len];rfl)).alloc _,(H.o.only hg bj).alloc _,Whole.new (by rw[jY]) rfl⟩
 intro W3 ⟨kB,kA,kR,kO⟩;have s:=aa (show w.heap.size+1<w2.heap.size from H.o.inside);have KB:=aa kB;have KA:=aa kA;have KR:=aa kR;have KO:=aa kO;clear kB kA kR kO;rw[jY];generalize S:w2.heap.size=go at*;clear S
 go_wp2_with fail
 go_loopw [7] (λi wr=> ∃k:Nat,k<=255/\i= .int .i64 k/\eU W3 wr go 22 .u8 (sj x k 8 32)) (λi _=>255 -(intOf i).toNat)
 case atStart=>exact⟨0,af,rfl,by rw[Dk];exact eU.start KO.o⟩
 case round=>
  obtain⟨k,O,rfl,U⟩:=hrel;have A:=aa U;clear U
  by_cases h1:k<255
  .have i1:(k:Int)<255:=af;obtain⟨d,t⟩:=aP (k/8);obtain⟨b,u⟩:=aP (k %8);obtain⟨f,o⟩:=aP (k/51);obtain⟨v,p⟩:=aP (k %51);have d1:(k:Int)/8=d:=af;have d2:(k:Int) %8=b:=af;have d3:(k:Int)/51=f:=af;have d4:(k:Int) %51=v:=af;have e1:(d:Int)<32:=af;have e2:(f:Int)<5:=af;have e3:(b:Int)<8:=af;have e4:(v:Int)<51:=af;have cO:=A.o.cell d (by rw[dV];omega);rw[uv _ _ _ _ _ af]at cO;have fO:=A.o.frozen d;have V:=(A.o.other KA.o (dp s.o)).int f (by show f<5;omega);have g:=Rn x k h1;rw[<-o,<-p]at g;have y:=(Ht z.o.lt).vX f;obtain⟨L,hL⟩:=au y.1;rw[hL]at V g y;rw[cW]at g;have N:=Yd L v af;rw[g]at N;have J:=wj x k;have c:=Di x k 8;rw[<-t,<-u]at c
   have X:2^b<=128:=by
    have h:2^b<=2^7:=es an af;exact h
   have K:ep x k*2^b<=2^b:=by have:=Nat.mul_le_mul_right (2^b) J;omega
   have M:oo x k 8 d+ep x k*2^b<256:=af;have Y:=aa (by rw[Dj _ _ _ _ an af,<-t,<-u]:sj x (k+1) 8 32=(sj x k 8 32).set d ((oo x k 8 d+ep x k*2^b:Nat):Int));have ad:IntKind.u8.wrap ((ep x k:Nat):Int)=((ep x k:Nat):Int):=by rw[jf];omega
   have aj:IntKind.u8.wrap (((ep x k:Nat):Int)*2^b)=((ep x k*2^b:Nat):Int):=by
    rw[show((ep x k:Nat):Int)*2^b=((ep x k*2^b:Nat):Int) by simp,jf];omega
   have al:bits BinOp.or IntKind.u8 ((oo x k 8 d:Nat):Int) ((ep x k*2^b:Nat):Int)=((oo x k 8 d+ep x k*2^b:Nat):Int):=by
    rw[u8_or_nat _ _ af af,GZ _ _ _ c]
   clear t u o p g y hL J c X K M;generalize ep x k*2^b=sh at*;generalize oo x k 8 d=dg at*;generalize ep x k=bt at*
   go_wp2_with fail
   go_region
   all_goals
    go_wp2_with fail
    go_roundw
    case rel=>exact⟨k+1,af,by go_num,by rw[Y.o];exact(A.o.set d _).drew⟩
    case measure=>simp[intOf];omega
  .obtain rfl:k=255:=af;have B:=A.o;obtain⟨Z,P⟩:=aP (sj x 255 8 32);have j:Z.length=32:=by rw[P];exact dV _ _ _ _
   rw[<-P]at B;have hr:=B.other KR.o (dp s.o);have Q:=(At.j B.et).R (m:=32) (by rw[ag,j]);have r1:=(At.j B.et).row (m:=32) (by rw[ag,j]);have l2:=(At.j hr).R (m:=32) (by rw[ag];rfl);have ro:=bY .u8 Z 32 j;have HR:=aa hr;have ab:=aa j;have HB:=aa (B.below KB.o (dp s.o) KB.o.size);have HZ:=aa (show eE x=Z from P.symm);clear B hr P j;clear A h1 O
   go_wp2_with fail
   refine ej rfl underlying22 rfl gE (w.heap.size+1) (ai .u8 Z) _ rfl rfl HR.o (by rw[ag];rfl) (by rw[ag,ab.o]) ⟨by rw[HZ.o],?_⟩;exact HB.o.grown (aG _ _ _ _) HB.o.size (λk O=>by injection O with O;omega)
end Go.Proofs.P
namespace Go.Spk
def q7:List Int->Nat
 | []=>0
 |b::r=>b.toNat+256*q7 r
theorem E7:∀(ws:aR),(∀b∈ws,0<=b/\b<=255)-> ∀i k,k<8->i<ws.length->ep (q7 ws) (8*i+k)=ep (ix ws i).toNat k
 | [],_,i,_,_,h=>by simp at h
 |b::r,a,i,k,c,h=>by
  have d:=a b bj;obtain⟨n,rfl⟩:=au d.1
  match i with
  |0=>
   show ep (((n:Int).toNat)+256*q7 r) (8*0+k)=ep ((n:Int).toNat) k;rw[cW];unfold ep;rw[vt,aW];have e:k=0\/k=1\/k=2\/k=3\/k=4\/k=5\/k=6\/k=7:=af;rcases e with rfl|rfl|rfl|rfl|rfl|rfl|rfl|rfl<;>simp only[Nat.reducePow]<;>omega
  |i+1=>
   have f:=E7 r (λx g=>a x (by simp[g])) i k c (ek h);show ep (((n:Int).toNat)+256*q7 r) (8*(i+1)+k)=ep (ix r i).toNat k;rw[<-f,cW];unfold ep;rw[show 8*(i+1)+k=8+(8*i+k) by omega,ly,<-bQ];congr 2;show(n+256*q7 r)/256=q7 r;omega
theorem vG:∀(ws:aR),(∀b∈ws,0<=b/\b<=255)->q7 ws<2^(8*ws.length)
 | [],_=>by simp[q7]
 |b::r,a=>by
  have d:=a b bj;have e:=vG r (λx c=>a x (by simp[c]));rw[fw,show 8*(r.length+1)=8*r.length+8 by omega,ly];simp only[q7];generalize 2^(8*r.length)=m at*;omega
theorem DH(y:Nat)(h:y<2^255):Fe (fB y) (y %pF):=by
 unfold pF;refine va ?_ ?_ ?_ ?_ ?_ ?_
 all_goals omega
theorem JQ(x k:Nat)(a:k<=255):sj x k 51 5=fB (x %2^k):=by
 have h:x %2^k<2^255:=aL (fF _ (gR k)) (es an a);have e:sj x k 51 5= [((oo x k 51 0:Nat):Int),((oo x k 51 1:Nat):Int),((oo x k 51 2:Nat):Int),((oo x k 51 3:Nat):Int),((oo x k 51 4:Nat):Int)]:=rfl;rw[e];unfold oo fB;generalize x %2^k=y at*
 have b:y/2^(51*4) %2^51=y/2251799813685248/2251799813685248/2251799813685248/2251799813685248:=by
  rw[bQ,bQ,bQ];show y/2^204 %2^51=y/2^204;omega
 have c:y/2^(51*1) %2^51=y/2251799813685248 %2251799813685248:=rfl;have d:y/2^(51*2) %2^51=y/2251799813685248/2251799813685248 %2251799813685248:=by rw[bQ]
 have f:y/2^(51*3) %2^51=y/2251799813685248/2251799813685248/2251799813685248 %2251799813685248:=by rw[bQ,bQ]
 have g:y/2^(51*0) %2^51=y %2251799813685248:=by rw[vt,Nat.pow_zero,Nat.div_one]
 rw[g,c,d,f,b]
def BW(ws:List Int):Nat:=q7 (ws.take 32) %2^255
theorem RI(ws:aR):BW ws<2^255:=fF _ (gR _)
theorem RJ(ws:aR)(c:∀b∈ws,0<=b/\b<=255)(n:Nat)(f:n=min ws.length 32):q7 (ws.take 32) %2^(min (8*n) 255)=BW ws:=by
 unfold BW
 by_cases h:ws.length<32
 .have a:=vG (ws.take 32) (λb d=>c b (dW d));rw[aO]at a;have e:min (8*n) 255=8*n:=af;rw[e,show min 32 ws.length=n by omega]at*;rw[ig a,ig (aL a (es an af))]
 .rw[show min (8*n) 255=255 by omega]
end Go.Spk
namespace Go.Proofs.P
attribute [local go_sem ↓] li lm
attribute [local go_sem] cr cD
theorem zH(b k:Nat)(a:b<256):bits BinOp.and IntKind.u8 ((b:Int)/2^k) 1=((ep b k:Nat):Int):=by
 rw[show((b:Int)/2^k)=((b/2^k:Nat):Int) by simp,show(1:Int)=((1:Nat):Int)from rfl,u8_and_nat _ _ (gX (pz _ _) a) an,nat_mask1]
 rfl
theorem Dq(s:bB)(hs:s.size<=1000000000)(w:ay):
 Calls prog 212 #[.string s] w λe w'=>e= .returned (.agg (ai .u64 (fB (BW (bI s)))))/\Below w.heap.size w w':=by
 obtain⟨n,I⟩:=aP (min s.size 32);have u:min (s.size:Int) 32=(n:Int):=af;have HN:=aa I;have J:=aa (af:n<=32/\n<=s.size);obtain⟨V,K⟩:=aP (q7 ((bI s).take 32))
 have o:=aa (show V %2^(min (8*n) 255)=BW (bI s) by
  rw[K];exact RJ _ (cY (c8 s)) n (by rw[aj];exact I))
 have v:=aa (show∀i k,k<8->i<n->ep V (8*i+k)=ep (ix (bI s) i).toNat k from λi k x hi=>by
  rw[K,E7 _ (λb L=>cY (c8 s) b (dW L)) i k x (by rw[aO,aj];omega)];congr 2;unfold ix;rw[bV,bV,js af])
 clear K I;have gs:∀(n:Nat) (h:n<s.size),((s[n]'h).toNat:Int)=ix (bI s) n:=λn h=>(AV s n h).symm
 go_enter func212,ntmps212
 go_upto_region 2 with(fail)
 refine aU (λW=>Below w.heap.size w W/\Whole W w.heap.size 50 (ai .u64 [0,0,0,0,0])/\Whole W (w.heap.size+1) 50 (ai .u64 [0,0,0,0,0])) ⟨by go_grown,(Whole.new rfl rfl).alloc _,Whole.new bj rfl⟩ ?_;intro W0 ⟨z,A,C⟩;have D:=aa z;have M:=aa A;have N:=aa C;clear z C A
 go_wp2_with fail
 clear u;have GS:=aa gs;clear gs
 go_loopw [10] (λj wr=> ∃i:Nat,i<=n/\j= .int .i64 i/\eU W0 wr (w.heap.size+1) 50 .u64 (sj V (min (8*i) 255) 51 5)) (λj _=>n -(intOf j).toNat)
 case atStart=>exact⟨0,af,rfl,by rw[vt,Nat.zero_min,Dk];exact eU.start N.o⟩
 case round=>
  obtain⟨i,hi,rfl,U⟩:=hrel;have O:=aa U;clear U
  by_cases h1:i<n
  .have i1:(i:Int)<n:=af
   go_wp2_with fail
   go_loopw [13] (λj wr=> ∃k:Nat,k<=8/\j= .int .i64 k/\eU W0 wr (w.heap.size+1) 50 .u64 (sj V (min (8*i+k) 255) 51 5)) (λj _=>8 -(intOf j).toNat)
   case atStart=>exact⟨0,af,rfl,O.o⟩
   case round=>
    obtain⟨k,x,rfl,U⟩:=hrel;have P:=aa U;clear U;have Q:=J.o;obtain⟨ab,ad⟩:=Q
    by_cases h2:k<8
    .have i2:(k:Int)<8:=af;have i3:(i:Int)<s.size:=af
     by_cases h3:8*i+k<255
     .have i5:8*(i:Int)+k<255:=af;have hm:min (8*i+k) 255=8*i+k:=af;have E:min (8*i+(k+1)) 255=(8*i+k)+1:=af;have r:=P.o;rw[hm]at r;have p:=aa E;have f:=v.o i k h2 h1;obtain⟨m,q⟩:=aP (8*i+k);rw[<-q]at r f;have R:=aa q;have hid:8*(i:Int)+k=m:=af;obtain⟨c,g⟩:=aP (m/51);obtain⟨a,l⟩:=aP (m %51);have d3:(8*(i:Int)+k)/51=c:=af;have d4:(8*(i:Int)+k) %51=a:=af;have e2:(c:Int)<5:=af;have e4:(a:Int)<51:=af;have cO:=r.cell c (by rw[dV];omega);rw[uv _ _ _ _ _ af]at cO;have fO:=r.frozen c;have F:=c8 s i;obtain⟨B,S⟩:=au F.1;have al:((s[i]'af).toNat:Int)=B:=(GS.o i af).trans S;rw[S,cW]at f;have L:=zH B k af;rw[<-f]at L;have G:=wj V m;have d:=Di V m 51;rw[<-g,<-l]at d
      have hp:2^a<=1125899906842624:=by
       have h:2^a<=2^50:=es an af;exact h
      have H:ep V m*2^a<=2^a:=by have:=Nat.mul_le_mul_right (2^a) G;omega
      have X:=aa (by rw[Dj _ _ _ _ an af,<-g,<-l]:sj V (m+1) 51 5=(sj V m 51 5).set c ((oo V m 51 c+ep V m*2^a:Nat):Int));have ao:IntKind.u64.wrap ((ep V m:Nat):Int)=((ep V m:Nat):Int):=by rw[bH];omega
      have av:IntKind.u64.wrap (((ep V m:Nat):Int)*2^a)=((ep V m*2^a:Nat):Int):=by
       rw[show((ep V m:Nat):Int)*2^a=((ep V m*2^a:Nat):Int) by simp,bH];omega
      have ax:bits BinOp.or IntKind.u64 ((oo V m 51 c:Nat):Int) ((ep V m*2^a:Nat):Int)=((oo V m 51 c+ep V m*2^a:Nat):Int):=by
       rw[u64_or_nat _ _ af af,GZ _ _ _ d]
      have Y:=aa r;clear g l f F S G d hp H r hm E q hid;generalize ep V m*2^a=sh at*;generalize oo V m 51 c=dg at*;generalize ep V m=bt at*
      go_wp2_with fail
      go_region
      all_goals
       go_wp2_with fail
       go_roundw
       case rel=>exact⟨k+1,af,by go_num,by rw[p.o,<-R.o,X.o];exact(Y.o.set c _).drew⟩
       case measure=>simp[intOf];omega
     .have i5:¬8*(i:Int)+k<255:=af;have p:=aa (af:min (8*i+(k+1)) 255=min (8*i+k) 255)
      go_wp2_with fail
      go_roundw
      case rel=>exact⟨k+1,af,by go_num,by rw[p.o];exact P.o⟩
      case measure=>simp[intOf];omega
    .obtain rfl:k=8:=af
     go_wp2_with fail
     go_roundw
     case rel=>exact⟨i+1,af,by go_num,P.o⟩
     case measure=>simp[intOf];omega
  .obtain rfl:i=n:=af;have t:=O.o;rw[JQ _ _ af,o.o]at t;generalize hy:BW (bI s)=y at*;have HY:=aa hy;have Z:=t.other M.o af;have l1:=(At.j t.et).R (m:=5) (by rw[ag];rfl);have r1:=(At.j t.et).row (m:=5) (by rw[ag];rfl);have l2:=(At.j Z).R (m:=5) (by rw[ag];rfl);have ro:=bY .u64 (fB y) 5 rfl;have HR:=aa Z;have HB:=aa (t.below D.o af D.o.size);clear t Z hy O
   go_wp2_with fail
   refine ej rfl underlying50 rfl sW w.heap.size (ai .u64 (fB y)) _ rfl rfl HR.o (by rw[ag];rfl) (by rw[ag];rfl) ⟨by rw[HY.o],?_⟩;exact HB.o.grown (aG _ _ _ _) HB.o.size (λk x=>by injection x with x;omega)
end Go.Proofs.P
namespace Go.Spk
def wz(x:Nat):Nat:=if x %2=1 then(0+(pF -x)) %pF else x
def Mj(a:List Int)(x:Nat):List Int:=if x %2=1 then bU (mY [0,0,0,0,0] a)else a
theorem QA{a}{x}(b:Fe a x):Fe (Mj a x) (wz x):=by
 unfold Mj wz
 split
 .exact pq (va af af af af af af) b
 .exact b
def Y9:Nat:=K8 2 236 253
def m1F:Nat:=wz Y9
def TB:List Int:=Mj (rP [2,0,0,0,0] 236 253) Y9
theorem Ti:Fe [2,0,0,0,0] 2:=va af af af af af af
theorem Rp:Fe (rP [2,0,0,0,0] 236 253) Y9:=wY Ti 236 253
theorem Rq:Fe TB m1F:=QA Rp
end Go.Spk
namespace Go.Proofs.P
attribute [local go_sem ↓] li lm
attribute [local go_sem] cr cD
theorem rF{a}(h:a.length=5):(prog.info? 50).map (·.size)=some (ai .u64 a).size:=by rw[ag,h];kernel_rfl
theorem NU(w:ay):
 Calls prog 87 #[] w (Ai TB w):=by
 obtain⟨r,I⟩:=aP (rP [2,0,0,0,0] 236 253);have i:Fe r Y9:=I▸Rp;have L:=aa I;have b:=aa i;have HN:=aa (show Fe (bU (mY [0,0,0,0,0] r)) _ from pq nJ i)
 have M:=aa (show TB=(if decide (Y9 %2=1)then bU (mY [0,0,0,0,0] r)else r) by
  unfold TB Mj;rw[<-I];simp)
 clear I i
 go_enter func87,ntmps87
 go_upto_region 1 with(fail)
 refine aU (λW=>Below w.heap.size w W/\Whole W w.heap.size 50 (ai .u64 [0,0,0,0,0])) ⟨by go_grown,Whole.new rfl rfl⟩ ?_;intro W0 ⟨o,p⟩;have u:=aa o;have v:=aa p;clear o p
 go_wp2_with fail
 refine(ew (n:=2) an _).mono ?_;rintro e w1 ⟨rfl,x⟩;have y:=aa x;clear x
 go_wp2_with fail
 refine(sr (a:= [((2:Nat):Int),0,0,0,0]) Ti 20 2 an an _).mono ?_;rw[show rP [((2:Nat):Int),0,0,0,0] (256 -20) (255 -2)=r from L.o.symm];rintro e w2 ⟨rfl,z⟩;have N:=y.o.trans (z.mono y.o.size);have l:=Whole.new (w:=w2) (g:=w2.heap.size) (t:=50) (cs:= #[bO,bO,bO,bO,bO]) rfl rfl;have l3:=(At.j l).R (m:=5) rfl;have ro:=bY .u64 r 5 b.o.len;have HG:=aa l;have A:=aa (v.o.below N v.o.inside);have B:=aa (u.o.trans (N.mono u.o.size));have c:=aa (show w.heap.size<w2.heap.size from A.o.inside);clear N z l
 go_upto_region 2 with(fail)
 clear l3 ro;refine aU (λW=>Below w.heap.size w W/\Whole W w.heap.size 50 (ai .u64 [0,0,0,0,0])/\Whole W w2.heap.size 50 (ai .u64 r)) ?_ ?_
 .have l:=aG w2.heap.size (ai .u64 r).toList 0 (w2.alloc (.cells #[bO,bO,bO,bO,bO] 50));have U:=(B.o.alloc B.o.size (.cells #[bO,bO,bO,bO,bO] 50));exact⟨U.grown l U.size (λq C=>by injection C with C;have:=c.o;omega),(A.o.alloc _).only l (λe=>by injection e with e;have:=c.o;omega),HG.o.fill (by rw[ag,b.o.len];rfl)⟩
 intro W3 ⟨V,X,Y⟩;have Z:=aa V;have O:=aa X;have J:=aa Y;clear V X Y;generalize P:w2.heap.size=go at*;clear P;have j:=aa (At.j J.o);obtain⟨m,D⟩:=aP TB;have HM:=aa D;have E:m.length=5:=by rw[D];exact Rq.len
 have d:=aa E;rw[M.o]at D;have Q:=aa D;clear D E;refine dQ 6 (St W3 w.heap.size 0 (ai .u64 m).toList) false al al (St.start _ _ _ _) ?_;refine bS (λK h=> ?_);refine dK al 50 (.tmp 1) rfl go 0 rfl (ai .u64 r) _ (j.o) J.o.inside (eq c.o) underlying50 rfl (rF b.o.len) ?_;go_simp;refine h _ ?_;clear h K;refine rD (.bool (decide (Y9 %2=1))) (λs W F=> ?_) ?_
 .refine fR (f:=36) (args:=(#[.agg (ai .u64 r)])) fN F ?_;exact sq b.o W
 refine bS (λK h=> ?_);refine dK al 50 (.tmp 1) rfl go 0 rfl (ai .u64 r) _ (j.o) J.o.inside (eq c.o) underlying50 rfl (rF b.o.len) ?_;go_simp;refine h _ ?_;clear h K;refine rD (.agg (ai .u64 (bU (mY [0,0,0,0,0] r)))) (λs W F=> ?_) ?_
 .refine fR (f:=25) (args:=(#[.agg (ai .u64 r)])) fN F ?_;exact ot b.o W
 refine bS (λK h=> ?_);refine dK al 50 (.tmp 1) rfl go 0 rfl (ai .u64 r) _ (j.o) J.o.inside (eq c.o) underlying50 rfl (rF b.o.len) ?_;go_simp;refine h _ ?_;clear h K;refine rD (.agg (ai .u64 m)) (λs W F=> ?_) ?_
 .refine fR (f:=88) (args:=(#[.bool (decide (Y9 %2=1)),.agg (ai .u64 (bU (mY [0,0,0,0,0] r))),.agg (ai .u64 r)])) fN F ?_;rw[Q.o];exact iX _ HN.o b.o W
 refine ft ?_;refine Vy 50 (.tmp 0) (.tmp 9) (ai .u64 m) rfl al rfl rfl rfl rfl (by rw[ag,d.o];exact(At.j O.o).2) O.o.inside (rF d.o) (iO _ _) ?_;intro W4 k;have G:=k.all O.o (by rw[ag,ag,d.o];rfl);have H:=Z.o.grown k.grown Z.o.size (λq C=>by injection C with C;omega);have R:=aa G;have S:=aa H;clear k G H
 go_wp2_with fail
 exact cI (im rfl _ _ w.heap.size 50 (ai .u64 m) (0,0) _ rfl R.o underlying50 rfl (rF d.o)) rfl ⟨by rw[HM.o],S.o⟩
end Go.Proofs.P
namespace Go.Spk
theorem Hp.sub{w W}{M}{s t}(h:Hp w M s W)(b:t.Sublist s):Hp w M t W:=⟨h.base,λe a=>h.en e (b.subset a),λe a=>h.ins e (b.subset a),λe a=>h.own e (b.subset a),h.nd.sublist b⟩
theorem TC.drop{P}{w}{M}{Q}{a}{s s'}{c}{G:Prop}(p:Nat)(h:G)(b:s.eraseIdx p=s':=by(simp only[List.eraseIdx_cons_succ,List.eraseIdx_cons_zero];rfl))(hgo:G->TC P w M c Q a s':=by(intro k;refine go ?_;exact k)):TC P w M c Q a s:=
 ⟨λW d=>(hgo h).o W (b▸d.sub (List.eraseIdx_sublist ..))⟩
end Go.Spk
namespace Go.Proofs.P
def mn(a:List Int):Prop:= ∃n,Fe a n
theorem mn.add{a b}:mn a->mn b->mn (bU (o8 a b)):=λ⟨_,h⟩ ⟨_,k⟩=>⟨_,tu h k⟩
theorem mn.sub{a b}:mn a->mn b->mn (bU (mY a b)):=λ⟨_,h⟩ ⟨_,k⟩=>⟨_,pq h k⟩
theorem mn.mul{a b}:mn a->mn b->mn (mulL a b):=λ⟨_,h⟩ ⟨_,k⟩=>⟨_,dy h k⟩
theorem Cd{a b c}(h:Hid (mn a))(k:Hid (mn b))(e:Hid (c=bU (o8 a b)))(w:ay):Calls prog 28 #[.agg (ai .u64 a),.agg (ai .u64 b)] w λr d=>r= .returned (.agg (ai .u64 c))/\Below w.heap.size w d:=by obtain⟨_,h⟩:=h.o;obtain⟨_,k⟩:=k.o;rw[e.o];exact AG h k w
theorem FG{a b c}(h:Hid (mn a))(k:Hid (mn b))(e:Hid (c=bU (mY a b)))(w:ay):Calls prog 51 #[.agg (ai .u64 a),.agg (ai .u64 b)] w λr d=>r= .returned (.agg (ai .u64 c))/\Below w.heap.size w d:=by obtain⟨_,h⟩:=h.o;obtain⟨_,k⟩:=k.o;rw[e.o];exact AI h k w
theorem qd{a b c}(h:Hid (mn a))(k:Hid (mn b))(e:Hid (c=mulL a b))(w:ay):Calls prog 26 #[.agg (ai .u64 a),.agg (ai .u64 b)] w λr d=>r= .returned (.agg (ai .u64 c))/\Below w.heap.size w d:=by obtain⟨_,h⟩:=h.o;obtain⟨_,k⟩:=k.o;rw[e.o];exact jK h k w
theorem TD{a b}(h:Hid (mn a))(k:Hid (mn b)):∃c,Hid (c=bU (o8 a b))/\Hid (mn c)/\c.length=5:=⟨_,aa rfl,aa (.add h.o k.o),(mn.add h.o k.o).choose_spec.len⟩
theorem VK{a b}(h:Hid (mn a))(k:Hid (mn b)):∃c,Hid (c=bU (mY a b))/\Hid (mn c)/\c.length=5:=⟨_,aa rfl,aa (.sub h.o k.o),(mn.sub h.o k.o).choose_spec.len⟩
theorem vJ{a b}(h:Hid (mn a))(k:Hid (mn b)):∃c,Hid (c=mulL a b)/\Hid (mn c)/\c.length=5:=⟨_,aa rfl,aa (.mul h.o k.o),(mn.mul h.o k.o).choose_spec.len⟩
theorem IN{a c}(h:Hid (mn a))(e:Hid (c=mulL a a))(w:ay):Calls prog 57 #[.agg (ai .u64 a)] w λr b=>r= .returned (.agg (ai .u64 c))/\Below w.heap.size w b:=by obtain⟨_,h⟩:=h.o;rw[e.o];exact uZ h w
theorem mn.len{a}(h:mn a):a.length=5:=h.choose_spec.len
theorem Vg{W:ay}{g:Nat}{t:fg}{k:IntKind}{a b:aR}(h:Lay W g t [a.map (Value.int k),b.map (Value.int k)]):Whole W g t (ai k (a++b)):=by
 have c:Whole W g t [a.map (Value.int k),b.map (Value.int k)].flatten.toArray:=h;simpa[ai]using c
end Go.Proofs.P
namespace Go.Spk
def qz(a:List Int):Nat:=(Ds a %57896044618658097711785492504343953926634992332820282019728792003956564819949).toNat
theorem Fe.res{a}{x}(h:Fe a x):qz a=x:=by unfold qz;rw[h.val];simp
theorem UJ{a}{x}(h:Fe a x):Fe a (qz a):=by rw[h.res];exact h
theorem aax(c:Bool){a b}{x y}(d:Fe a x)(e:Fe b y):Fe (if c then a else b) (if c then x else y):=by grind
def uQ(a:List Int):List Int:=bU (mY [0,0,0,0,0] a)
def Mi(a:List Int):List Int:=if decide (qz a %2=1)then uQ a else a
def nz(u v:List Int):List Int×Bool:=
 let a:=mulL (mulL v v) v
 let b:=mulL (mulL a a) v
 let r:=mulL (mulL u a) (rP (mulL u b) (256 -24) (255 -3))
 let got:=mulL (mulL r r) v
 if qz got=qz u then(Mi r,true)else if qz got=qz (uQ u)then(Mi (mulL r TB),true)else([0,0,0,0,0],false)
section
variable {u v r got:List Int}(hr:r=mulL (mulL u (mulL (mulL v v) v)) (rP (mulL u (mulL (mulL (mulL (mulL v v) v) (mulL (mulL v v) v)) v)) (256 -24) (255 -3)))(hg:got=mulL (mulL r r) v)
include hr hg
theorem Wa(h:qz got=qz u):nz u v=(Mi r,true):=by
 subst hg hr;unfold nz;dsimp only;rw[if_pos h]
theorem Wb(h:¬qz got=qz u)(a:qz got=qz (uQ u)):nz u v=(Mi (mulL r TB),true):=by
 subst hg hr;unfold nz;dsimp only;rw[if_neg h,if_pos a]
theorem Wc(h:¬qz got=qz u)(a:¬qz got=qz (uQ u)):nz u v=([0,0,0,0,0],false):=by
 subst hg hr;unfold nz;dsimp only;rw[if_neg h,if_neg a]
end
theorem dN{P}{fn}{p u:Tmp}{b}(h:fn.results= #[.cell p b,.tmp u])(a:gJ)(w:ay)(g:Nat)(t:fg)(cs:gJ)(e:Nat×Nat)(d:TypeDesc)
 (f:a.getD p undef= .pointer (some ⟨g,0,none⟩)) (hg:w.heap[g]?=some (.cells cs t e))
 (i:P.underlying b=some d) (j:(match d with| .struct _| .array _ _=>true|_=>false)=true) (k:(P.info? b).map (·.size)=some cs.size):
 (results fn a).run P w= .ok (.tuple #[.agg cs,a.getD u undef]) w:=by
 have c:a[p]?.getD undef= .pointer (some ⟨g,0,none⟩):=by simpa using f
 simp[results,h,c,asAddr,run_loadVar_row w g t b cs e d hg i j k,Result.andThen]
end Go.Spk
namespace Go.Proofs.P
attribute [local go_sem ↓] li lm
attribute [local go_sem] cr cD
def MV(u v:List Int):Value:= .tuple #[.agg (ai .u64 (nz u v).1),.bool (nz u v).2]
theorem Ml{a}:mn a->Fe a (qz a):=λ⟨_,h⟩=>UJ h
theorem mn.neg{a}(h:mn a):mn (uQ a):=⟨_,pq nJ h.choose_spec⟩
theorem Zd{a c}(h:Hid (mn a))(e:Hid (c=uQ a))(w:ay):Calls prog 25 #[.agg (ai .u64 a)] w λr b=>r= .returned (.agg (ai .u64 c))/\Below w.heap.size w b:=by obtain⟨_,h⟩:=h.o;rw[e.o];exact ot h w
theorem nmN{a}(h:Hid (mn a)):∃c,Hid (c=uQ a)/\Hid (mn c)/\c.length=5:=⟨_,aa rfl,aa h.o.neg,h.o.neg.len⟩
theorem nmV{a c}(h:Hid (mn a))(k:Hid (mn c)):∃e,Hid (e=if decide (qz a %2=1)then c else a)/\e.length=5:=⟨_,aa rfl,by split;exact k.o.len;exact h.o.len⟩
theorem GJ{a b:aR}{x y:Nat}(B:Fe a x)(C:Fe b y)(w:ay):
 Calls prog 58 #[.agg (ai .u64 a),.agg (ai .u64 b)] w λe w'=>e= .returned (MV a b)/\Below w.heap.size w w':=by
 have j:=aa (show mn a from⟨_,B⟩);have g:=aa (show mn b from⟨_,C⟩);have la:=B.len;have lb:=C.len;obtain⟨b2,G,H,n1⟩:=vJ g g;obtain⟨v3,I,m,n2⟩:=vJ H g;obtain⟨b6,J,K,n3⟩:=vJ m m;obtain⟨v7,L,M,n4⟩:=vJ K g;obtain⟨m1,N,O,n5⟩:=vJ j m;obtain⟨P,Q,R,n6⟩:=vJ j M;obtain⟨pw,S,U⟩:∃c,Hid (c=rP P (256 -24) (255 -3))/\Hid (mn c):=⟨_,aa rfl,aa ⟨_,wY R.out.choose_spec _ _⟩⟩;obtain⟨r,V,f,n8⟩:=vJ O U;obtain⟨rr,X,Y,n9⟩:=vJ f f;obtain⟨got,n,h,ab⟩:=vJ Y g;have hr:Hid (r=mulL (mulL a (mulL (mulL b b) b)) (rP (mulL a (mulL (mulL (mulL (mulL b b) b) (mulL (mulL b b) b)) b)) (256 -24) (255 -3))):=aa (by rw[V.out,S.out,Q.out,N.out,L.out,J.out,I.out,G.out]);have hg:Hid (got=mulL (mulL r r) b):=aa (by rw[n.out,X.out]);clear B C;refine TC.enter func58 ntmps58 [] [] (Hp.nil _ _) ?_;refine T.one 0 (TO.J (z:=5) λba=> ?_);refine T.one 1 (TO.J (z:=5) λbb=> ?_);refine T.one 2 (TO.J (z:=5) λbr=> ?_);refine TC.rg [104000] ?_;refine T.qc 1 (v:= .agg (ai .u64 b2)) (λ_ _ W _=>IN g G W) ?_;refine T.qc 3 (v:= .agg (ai .u64 v3)) (λ_ _ W _=>qd H g I W) ?_;refine T.one 4 (TO.J (z:=5) λad=> ?_);refine TC.rg [60104000] ?_;refine T.qc 1 (v:= .agg (ai .u64 b6)) (λ_ _ W _=>IN m J W) ?_;refine T.qc 3 (v:= .agg (ai .u64 v7)) (λ_ _ W _=>qd K g L W) ?_;refine T.one 4 (TO.J (z:=5) λaj=> ?_);refine TC.rg [108000] ?_;refine T.qc 2 (v:= .agg (ai .u64 m1)) (λ_ _ W _=>qd j m N W) ?_;refine T.qc 5 (v:= .agg (ai .u64 P)) (λ_ _ W _=>qd j M Q W) ?_;refine T.qc 6 (v:= .agg (ai .u64 pw)) (λ_ _ W _=>by rw[S.out];exact sr R.out.choose_spec 24 3 an an W) ?_;refine T.qc 7 (v:= .agg (ai .u64 r)) (λ_ _ W _=>qd O U V W) ?_;refine T.one 8 (TO.J (z:=5) λal=> ?_);refine TC.rg [60104000] ?_;refine T.qc 1 (v:= .agg (ai .u64 rr)) (λ_ _ W _=>IN f X W) ?_;refine T.qc 3 (v:= .agg (ai .u64 got)) (λ_ _ W _=>qd Y g n W) ?_;refine T.one 4 (TO.J (z:=5) λao=> ?_)
 by_cases i:qz got=qz a
 .obtain⟨D,o,p,nn⟩:=nmN f;obtain⟨q,s,ne⟩:=nmV f p;have l:=Wa hr.o hg.o i;have i:=aa i;refine T.one 2 (TO.qk (v:= .bool true) (λW _=>by have:=qO (Ml h.out) (Ml j.o) W;rw[fj i.o]at this;exact this) ?_);refine TC.rg [102000] ?_;refine T.qc 1 (v:= .bool (decide (qz r %2=1))) (λ_ _ W _=>sq (Ml f.out) W) ?_;refine T.qc 3 (v:= .agg (ai .u64 D)) (λ_ _ W _=>Zd f o W) ?_;refine T.qc 5 (v:= .agg (ai .u64 q)) (λ_ _ W _=>by rw[s.out];exact(iX _ (Ml p.out) (Ml f.out) W)) ?_;refine TE.TF ?_;exact λW t=>⟨by unfold MV;rw[l,show Mi r=q by unfold Mi;rw[s.out,o.out]];simp[ai,loc],t.below⟩
 obtain⟨Z,E,u,av⟩:=nmN j;have i:=aa i;refine T.one 2 (TO.qk (v:= .bool false) (λW _=>by have:=qO (Ml h.out) (Ml j.o) W;rw[eM i.o]at this;exact this) ?_);refine TC.rg [] ?_;refine T.qc 2 (v:= .agg (ai .u64 Z)) (λ_ _ W _=>Zd j E W) ?_
 by_cases k:qz got=qz Z
 .have l:=Wb hr.o hg.o i.o (E.out▸k);have k:=aa k;obtain⟨mm,dm,fm⟩:∃c,Hid (c=TB)/\Hid (mn c):=⟨_,aa rfl,aa ⟨_,Rq⟩⟩;obtain⟨F,A,d,ax⟩:=vJ f fm;obtain⟨D,o,p,nn⟩:=nmN d;obtain⟨q,s,ne⟩:=nmV d p;rw[<-dm.out,<-A.out]at l;refine T.qc 3 (v:= .bool true) (λ_ _ W _=>by have:=qO (Ml h.out) (Ml u.out) W;rw[fj k.o]at this;exact this) ?_;refine TC.rg [40108000] ?_;refine T.qc 1 (v:= .agg (ai .u64 mm)) (λ_ _ W _=>by rw[dm.out];exact NU W) ?_;refine T.qc 2 (v:= .agg (ai .u64 F)) (λ_ _ W _=>qd f fm A W) ?_;refine TC.rg [102000] ?_;refine T.qc 1 (v:= .bool (decide (qz F %2=1))) (λ_ _ W _=>sq (Ml d.out) W) ?_;refine T.qc 3 (v:= .agg (ai .u64 D)) (λ_ _ W _=>Zd d o W) ?_;refine T.qc 5 (v:= .agg (ai .u64 q)) (λ_ _ W _=>by rw[s.out];exact(iX _ (Ml p.out) (Ml d.out) W)) ?_;refine TE.TF ?_;exact λW t=>⟨by unfold MV;rw[l,show Mi F=q by unfold Mi;rw[s.out,o.out]];simp[ai,loc],t.below⟩
 .have l:=Wc hr.o hg.o i.o (E.out▸k);have k:=aa k;refine T.qc 3 (v:= .bool false) (λ_ _ W _=>by have:=qO (Ml h.out) (Ml u.out) W;rw[eM k.o]at this;exact this) ?_;refine TE.TF ?_;exact λW t=>⟨by unfold MV;rw[l];rfl,t.below⟩
end Go.Proofs.P
