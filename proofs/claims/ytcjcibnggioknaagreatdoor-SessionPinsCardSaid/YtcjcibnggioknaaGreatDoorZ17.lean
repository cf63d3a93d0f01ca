/- Lemmas on which SessionPins rests. -/
import Derived.Test.YtcjcibnggioknaaGreatDoorZ15
set_option maxRecDepth 100000
set_option maxHeartbeats 40000000
set_option linter.unusedVariables false
open Go.RowKit Go.Spk
open Go.Proofs.Tryz
namespace Go.Proofs.P
def BS(E:Nat->Addr)(v:Value)(k:Nat)(w:World):Prop:= ∀i,i<20->Calls prog 21 #[v,bM (E i)] w λe a=>e= .returned (.bool (decide (i=k)))/\a=w
theorem BS.yes{E}{v}{k}{w}(h:BS E v k w)(c:k<20):Calls prog 21 #[v,bM (E k)] w λe a=>e= .returned (.bool true)/\a=w:=(h k c).mono λe a b=>⟨by rw[b.1,fj rfl],b.2⟩
theorem BS.no{E}{v}{k}{w}(h:BS E v k w){i}(d:i<20)(a:i≠k):Calls prog 21 #[v,bM (E i)] w λe b=>e= .returned (.bool false)/\b=w:=(h i d).mono λe b c=>⟨by rw[c.1,eM a],c.2⟩
theorem Sp(E:gn)(v:cH)(k:Nat)(C:k<20)(w:ay)(j:ts w E)(hv:BS E v k w):
 Calls prog 107 #[v] w λe u=>e= .returned (.int .u32 (pJ k:Nat))/\u=w:=by
 have x:w.cell? ⟨11,0,none⟩=some (bM (E 11)):=j.var 11 af;have c4:w.cell? ⟨4,0,none⟩=some (bM (E 4)):=j.var 4 af;have z:w.cell? ⟨13,0,none⟩=some (bM (E 13)):=j.var 13 af;have A:w.cell? ⟨12,0,none⟩=some (bM (E 12)):=j.var 12 af;have D:w.cell? ⟨9,0,none⟩=some (bM (E 9)):=j.var 9 af;have B:w.cell? ⟨10,0,none⟩=some (bM (E 10)):=j.var 10 af;obtain⟨r,c⟩:=aP (pJ k);rw[<-c];clear j
 by_cases l:k=11
 .subst l;have y:=hv.yes af;have a:r=8:=c;subst a;clear c hv
  go_enter func107,ntmps107
  go_wp2_with fail
  refine y.mono ?_;rintro e W ⟨rfl,rfl⟩
  go_wp2_with fail
  go_ret
  exact⟨rfl,rfl⟩
 by_cases s:k=4
 .subst s;have b:=hv.no (i:=11) af af;have y:=hv.yes af;have a:r=5:=c;subst a;clear c hv
  go_enter func107,ntmps107
  go_wp2_with fail
  refine b.mono ?_;rintro e W ⟨rfl,rfl⟩
  go_wp2_with fail
  refine y.mono ?_;rintro e W ⟨rfl,rfl⟩
  go_wp2_with fail
  go_ret
  exact⟨rfl,rfl⟩
 by_cases m:k=13
 .subst m;have b:=hv.no (i:=11) af af;have g:=hv.no (i:=4) af af;have y:=hv.yes af;have a:r=9:=c;subst a;clear c hv
  go_enter func107,ntmps107
  go_wp2_with fail
  refine b.mono ?_;rintro e W ⟨rfl,rfl⟩
  go_wp2_with fail
  refine g.mono ?_;rintro e W ⟨rfl,rfl⟩
  go_wp2_with fail
  refine y.mono ?_;rintro e W ⟨rfl,rfl⟩
  go_wp2_with fail
  go_ret
  exact⟨rfl,rfl⟩
 by_cases n:k=12
 .subst n;have b:=hv.no (i:=11) af af;have g:=hv.no (i:=4) af af;have d:=hv.no (i:=13) af af;have y:=hv.yes af;have a:r=3:=c;subst a;clear c hv
  go_enter func107,ntmps107
  go_wp2_with fail
  refine b.mono ?_;rintro e W ⟨rfl,rfl⟩
  go_wp2_with fail
  refine g.mono ?_;rintro e W ⟨rfl,rfl⟩
  go_wp2_with fail
  refine d.mono ?_;rintro e W ⟨rfl,rfl⟩
  go_wp2_with fail
  refine y.mono ?_;rintro e W ⟨rfl,rfl⟩
  go_wp2_with fail
  go_ret
  exact⟨rfl,rfl⟩
 by_cases t:k=9
 .subst t;have b:=hv.no (i:=11) af af;have g:=hv.no (i:=4) af af;have d:=hv.no (i:=13) af af;have f:=hv.no (i:=12) af af;have y:=hv.yes af;have a:r=3:=c;subst a;clear c hv
  go_enter func107,ntmps107
  go_wp2_with fail
  refine b.mono ?_;rintro e W ⟨rfl,rfl⟩
  go_wp2_with fail
  refine g.mono ?_;rintro e W ⟨rfl,rfl⟩
  go_wp2_with fail
  refine d.mono ?_;rintro e W ⟨rfl,rfl⟩
  go_wp2_with fail
  refine f.mono ?_;rintro e W ⟨rfl,rfl⟩
  go_wp2_with fail
  refine y.mono ?_;rintro e W ⟨rfl,rfl⟩
  go_wp2_with fail
  go_ret
  exact⟨rfl,rfl⟩
 by_cases o:k=10
 .subst o;have b:=hv.no (i:=11) af af;have g:=hv.no (i:=4) af af;have d:=hv.no (i:=13) af af;have f:=hv.no (i:=12) af af;have p:=hv.no (i:=9) af af;have y:=hv.yes af;have a:r=3:=c;subst a;clear c hv
  go_enter func107,ntmps107
  go_wp2_with fail
  refine b.mono ?_;rintro e W ⟨rfl,rfl⟩
  go_wp2_with fail
  refine g.mono ?_;rintro e W ⟨rfl,rfl⟩
  go_wp2_with fail
  refine d.mono ?_;rintro e W ⟨rfl,rfl⟩
  go_wp2_with fail
  refine f.mono ?_;rintro e W ⟨rfl,rfl⟩
  go_wp2_with fail
  refine p.mono ?_;rintro e W ⟨rfl,rfl⟩
  go_wp2_with fail
  refine y.mono ?_;rintro e W ⟨rfl,rfl⟩
  go_wp2_with fail
  go_ret
  exact⟨rfl,rfl⟩
 have b:=hv.no (i:=11) af af;have g:=hv.no (i:=4) af af;have d:=hv.no (i:=13) af af;have f:=hv.no (i:=12) af af;have p:=hv.no (i:=9) af af;have q:=hv.no (i:=10) af af;have a:r=2:=by rw[c];unfold pJ;simp[l,s,m,n,t,o]
 subst a;clear c hv
 go_enter func107,ntmps107
 go_wp2_with fail
 refine b.mono ?_;rintro e W ⟨rfl,rfl⟩
 go_wp2_with fail
 refine g.mono ?_;rintro e W ⟨rfl,rfl⟩
 go_wp2_with fail
 refine d.mono ?_;rintro e W ⟨rfl,rfl⟩
 go_wp2_with fail
 refine f.mono ?_;rintro e W ⟨rfl,rfl⟩
 go_wp2_with fail
 refine p.mono ?_;rintro e W ⟨rfl,rfl⟩
 go_wp2_with fail
 refine q.mono ?_;rintro e W ⟨rfl,rfl⟩
 go_wp2_with fail
 go_ret
 exact⟨rfl,rfl⟩
attribute [local go_sem ↓] iw iy Go.wp_at_zero Go.wp_at_succ
attribute [local go_sem] cr cD
def Xi(w0 w:World)(E:Nat->Addr)(s:ByteArray)(k:Nat)(v:Value):Prop:= ∃p,v= .iface 82 (.pointer (some ⟨p,0,none⟩))/\w0.heap.size<=p/\Whole w p 86 #[.string s,bM (E k)]
theorem tN(n:Nat):(eE n).length=32:=dV _ _ _ _
theorem Ws(ds ps:aR)(x:dn ds)(y:dn ps)(c:di ds ps≠0)(w:ay):
 Calls prog 185 #[.agg (ai .u8 ds),.agg (ai .u8 ps)] w λr O=>r= .returned (.tuple #[.agg (ai .u8 (eE (di ds ps))),.nilIface])/\Below w.heap.size w O:=by
 have z:=aa (λW=>yL ds ps x.1 y.1 x.2 y.2 W);have b:=aa (tN (di ds ps));have E:=aa x.1;have F:=aa y.1;obtain⟨N,G⟩:=aP (di ds ps);rw[<-G]at z b c⊢;obtain⟨L,H⟩:=aP (eE N);rw[<-H]at z b⊢;clear x y G H;rw[show(!decide (N=0))=true by rw[eM c];rfl]at z;clear c
 go_enter func185,ntmps185
 go_upto_region 1 with(fail)
 refine aU (λW=>Below w.heap.size w W/\Whole W w.heap.size 22 (ai .u8 ds)/\Whole W (w.heap.size+1) 22 (ai .u8 ps)/\Whole W (w.heap.size+2) 22 (ai .u8 av)) ⟨by go_grown,((Whole.new rfl rfl).alloc _).alloc _,(Whole.new bj rfl).alloc _,Whole.new bj rfl⟩ ?_;intro P ⟨j,d,f,k⟩;have l:=aa j;have n:=aa k;have I:=(At.j d).R (m:=32) (by rw[ag,E.o]);have J:=(At.j d).row (m:=32) (by rw[ag,E.o]);have Q:=(At.j f).R (m:=32) (by rw[ag,F.o]);have R:=(At.j f).row (m:=32) (by rw[ag,F.o]);clear j d f k
 go_wp2_with fail
 refine(z.o P).mono ?_;rintro e A ⟨rfl,B⟩;have o:=aa (n.o.below B n.o.inside);have a:=aa (l.o.trans (B.mono l.o.size));have U:=bY .u8 L 32 b.o;have i:=Whole.new (w:=A) (g:=A.heap.size) (t:=22) (cs:= #[ao,ao,ao,ao,ao,ao,ao,ao,ao,ao,ao,ao,ao,ao,ao,ao,ao,ao,ao,ao,ao,ao,ao,ao,ao,ao,ao,ao,ao,ao,ao,ao]) rfl rfl;have S:=(At.j i).R (m:=32) rfl;have K:=aa i;clear B I J Q R i
 go_upto_region 2 with(fail)
 refine aU (λW=>Below w.heap.size w W/\Whole W (w.heap.size+2) 22 (ai .u8 av)/\Whole W A.heap.size 22 (ai .u8 L)) ⟨?_,?_,?_⟩ ?_
 .exact(a.o.alloc a.o.size _).grown (aG _ _ _ _) (by simp;exact bu a.o.size) (λq s=>by injection s with s;have:=a.o.size;omega)
 .exact(o.o.alloc _).only (aG _ _ _ _) (bE (bD o.o.inside))
 .exact K.o.fill (by rw[ag,b.o];rfl)
 intro V ⟨M,C,kL⟩;have v:=aa M;have D:=aa C;have I:=(At.j kL).R (m:=32) (by rw[ag,b.o]);have J:=(At.j kL).row (m:=32) (by rw[ag,b.o]);have X:=(At.j C).R (m:=32) rfl;clear M C kL S K
 go_wp2_with fail
 refine cI (dN (p:=4) (u:=5) rfl _ _ (w.heap.size+2) 22 (ai .u8 L) (0,0) _ rfl (D.o.fill (by rw[ag,ag,b.o];rfl)) underlying22 rfl (by rw[ag,b.o];exact gE)) rfl ⟨rfl,?_⟩;exact v.o.grown (aG _ _ _ _) v.o.size (λq s=>by injection s with s;omega)
end Go.Proofs.P
namespace Go.Proofs.P
theorem BS.bare{E}{k}(f:k<20){w}(b:ts w E):BS E (bM (E k)) k w:=λi g=>by
 by_cases a:i=k
 .subst a;rw[fj rfl];exact U9 _ w
 .obtain⟨c,t,h⟩:=b.et k f;obtain⟨j,l,d⟩:=b.et i g;rw[eM a];exact Ra _ _ c j t l w (λe=>a (b.apart k i f g e).symm) h d
theorem BS.fault{E}{k}(g:k<20){b po}{w}(d:ts w E)(h1:w.cell? ⟨b,po+1,none⟩=some (bM (E k))):BS E (.iface 82 (.pointer (some ⟨b,po,none⟩))) k w:=λi h=>by
 by_cases a:i=k
 .subst a;rw[fj rfl];exact Cr b po _ w h1
 .obtain⟨c,t,j⟩:=d.et k g;obtain⟨l,m,f⟩:=d.et i h;rw[eM a];exact AU b po _ _ c l t m w h1 (λe=>a (d.apart k i g h e).symm) j f
end Go.Proofs.P
namespace Go.Spk
theorem Lay.sub{w}{g}{T}{ps}(h:Lay w g T ps)(i n:Nat):Sub (ps.take i).flatten.toArray (ps.drop (i+n)).flatten.toArray w g T ((ps.drop i).take n).flatten.toArray:=by
 have e:(ps.take i).flatten.toArray++((ps.drop i).take n).flatten.toArray++(ps.drop (i+n)).flatten.toArray=ps.flatten.toArray:=by
  apply tr;rw[ox ps i n];simp
 unfold Sub;rw[e];exact h
theorem Lay.Kz{w}{g}{T}{ps qs:qu}{i n}{cs}(h:Sub (ps.take i).flatten.toArray (ps.drop (i+n)).flatten.toArray w g T cs)(a:cs=qs.flatten.toArray):Lay w g T (ps.take i++qs++ps.drop (i+n)):=by
 have e:(ps.take i).flatten.toArray++qs.flatten.toArray++(ps.drop (i+n)).flatten.toArray=(ps.take i++qs++ps.drop (i+n)).flatten.toArray:=by
  apply tr;simp
 subst a;unfold Sub at h;rw[e]at h;exact h
theorem wZ{ps:qu}{i o}{L}(a:ps.map List.length=L)(b:kj L i=o):(ps.take i).flatten.toArray.size=o:=by
 rw[dH,mg,a,b]
theorem ci.only{g}{w w'}(h:ci [g] w w'):w.grownBy w' (some g):=⟨h.os,h.tape,h.output,h.size,λi a b=>h.block i a (λc=>b (by rw[ar.1 c]))⟩
end Go.Spk
namespace Go.Proofs.P
section
variable {w:World}{g gh:Nat}{vw re e:Value}{s:aX}
theorem Wk(p:bB)(a:bC s)(h1:1<=p.size)(hl:p.size<=32768)(f:s.wn<=1000000000)(j:w.rangeAt 25 0 (fG.map (Value.int .u32)))(k:w.rangeAt 26 0 j9)(h:cP w g gh vw re e s):
 Calls prog 102 #[.pointer (some ⟨g,71,none⟩),.string p] w λr b=>r= .returned (.tuple #[.string (strOfNums (aV s.wb s.wk s.wn (bI p))),.nilIface])/\cP b g gh vw re e {s with wn:=s.wn+1}/\w.grownBy b (some g):=by
 have c:=Lay.sub h 9 3;have l:=wZ (i:=9) (o:=71) (iQ (gh:=gh) (vw:=vw) (re:=re) (e:=e) a) an
 have m:((eY gh vw re e s).drop 9 |>.take 3).flatten.toArray=dU s.wn s.wb s.wk++ #[]:=by
  rw[fJ];show([Value.int .u64 s.wn]++([Value.bool s.wb]++(s.wk.map (Value.int .u8)++ []))).toArray=_;simp
 rw[m]at c;have d:=Off.KE (pr:=((eY gh vw re e s).take 9).flatten.toArray) (po:=((eY gh vw re e s).drop (9+3)).flatten.toArray) (T:=77) g s.wn s.wb s.wk p a.wk.1 a.wk.2 h1 hl f w c j k;rw[l]at d;refine d.mono ?_;rintro r b ⟨rfl,n,q⟩;refine⟨rfl,?_,q⟩;exact Lay.Kz (qs:= [[.int .u64 ((s.wn+1:Nat):Int)],[.bool s.wb],s.wk.map (Value.int .u8)]) n (by rw[fJ];simp)
attribute [local go_sem ↓] Go.wp_at_zero Go.wp_at_succ
theorem Sa(p:bB)(c:bC s)(h1:1<=p.size)(hl:p.size<=32768)(j:s.wn<=1000000000)(v:s.out.size<=1000000000000000)(x:s.since<=1000000000000000)(k:w.rangeAt 25 0 (fG.map (Value.int .u32)))(l:w.rangeAt 26 0 j9)(h:cP w g gh vw re e s):
 Calls prog 77 #[.pointer (some ⟨g,0,none⟩),.string p] w λr m=>r= .returned (.tuple #[])/\cP m g gh vw re e (nR s p)/\w.grownBy m (some g):=by
 have n:=aa (Wk p c h1 hl j k l h)
 have o:(strOfNums (aV s.wb s.wk s.wn (bI p))).size<=40000:=by
  have:=oK s.wb (bI p).length;rw[aj]at this;rw[bG,jM,aj];unfold se vQ
  split<;>omega
 obtain⟨X,d⟩:=aP (strOfNums (aV s.wb s.wk s.wn (bI p)));rw[<-d]at n o;have y:=aa d;have f:=aa c;have q:s.out.size+X.size<=9223372036854775807:=af;have z:(s.since:Int)<=1000000000000000:=af;clear d h k l o h1 hl j v x c
 go_enter func77,ntmps77
 go_wp2_with fail
 refine n.o.mono ?_;rintro r t ⟨rfl,b,u⟩;have a:bC {s with wn:=s.wn+1}:=f.o.ack _;have c1:=b.Xt a;have D:=Lay.free b 141;have i:=aa (b.zd a (s.out++X));have A:=aa (aZ u (aY (w:=t) ⟨g,141,none⟩ rfl (.string (s.out++X))));have c2:=i.o.Up (a.zd _);have E:=Lay.free i.o 477;have B:=aa (i.o.Wo (a.zd _) (s.since+1));have C:=aa (aZ A.o (aY (w:=t.setCell ⟨g,141,none⟩ (.string (s.out++X))) ⟨g,477,none⟩ rfl (.int .i64 ((s.since+1:Nat):Int))));clear b u
 go_wp2_with fail
 go_end0
 refine⟨rfl,?_,C.o⟩;have e:nR s p={s with out:=s.out++X,wn:=s.wn+1,since:=s.since+1}:=by unfold nR;rw[y.o]
 rw[e];exact B.o
end
end Go.Proofs.P
namespace Go.Proofs.P
section
variable {w:World}{g gh:Nat}{vw re e:Value}{s:aX}
theorem BA(b:bB)(n:Nat)(Q:bC s)(R:s.pm.size<=64)(hl:b.size<=900)(v:1<=n)(S:n<=32)(E:dt w)(hf:dJ w)(h:cP w g gh vw re e s):
 Calls prog 39 #[.pointer (some ⟨g,0,none⟩),.string b,.int .i64 (n:Nat)] w λr w'=>r= .returned (.string (strOfNums (nQ s (bI b) n)))/\Below w.heap.size w w':=by
 have C2:=aa (h.Yg Q);have x:=aa (h.L5 Q);have U:=aa h.inside;obtain⟨k,l⟩:=aP ((s.c7:Int) %256);have F:=aa (by rw[jf,l]:IntKind.u8.wrap (s.c7:Int)=k);obtain⟨d,m⟩:=aP (strOfNums [k]);have j:bI d= [k]:=by rw[m];exact cJ (λz hz=>by obtain rfl:=ar.1 hz;omega)
 have G:(b++d).size=b.size+1:=by rw[<-aj,gP,am,aj,j];rfl
 have H:d.size=1:=by rw[<-aj,j];rfl
 have I:=aa (af:b.size+d.size<=9223372036854775807);have o:=aa (λW=>Co s.pm (b++d) R af n v S W);have V:eP (bI s.pm) (bI (b++d)) n=nQ s (bI b) n:=by unfold nQ;rw[gP,j,l]
 rw[V]at o;obtain⟨X,y⟩:=aP (strOfNums (nQ s (bI b) n));rw[<-y]at o⊢;have J:=aa m;have L:=aa E;have M:=aa hf;clear h E hf l m j G H V y hl R v S
 go_enter func39,ntmps39
 go_upto_region 1 with(fail)
 refine jq (Kn.C w) Kn.le ⟨[],none⟩ al (Kn.start w) ?_;refine tp Kn.le_refl Kn.le_trans 0 (.pointer (some ⟨g,0,none⟩)) ?_;refine tp Kn.le_refl Kn.le_trans 1 (.pointer (some ⟨g,0,none⟩)) ?_;refine tp Kn.le_refl Kn.le_trans 2 (.pointer (some ⟨g,0,none⟩)) ?_;refine tp Kn.le_refl Kn.le_trans 3 (.pointer (some ⟨g,2,none⟩)) ?_;refine Pf Kn.le_refl Kn.le_trans 4 (.string s.pm) (λA u W a=>aD ?_) ?_
 .have c:=(a.base.cell (p:=⟨g,2,none⟩) U.o).trans C2.o;go_simp
 refine tp Kn.le_refl Kn.le_trans 5 (.string b) ?_;refine tp Kn.le_refl Kn.le_trans 6 (.pointer (some ⟨g,0,none⟩)) ?_;refine tp Kn.le_refl Kn.le_trans 7 (.pointer (some ⟨g,0,none⟩)) ?_;refine tp Kn.le_refl Kn.le_trans 8 (.pointer (some ⟨g,411,none⟩)) ?_;refine Pf Kn.le_refl Kn.le_trans 9 (.int .i64 (s.c7:Nat)) (λA u W a=>aD ?_) ?_
 .have c:=(a.base.cell (p:=⟨g,411,none⟩) U.o).trans x.o;go_simp
 refine Pf Kn.le_refl Kn.le_trans 10 (.int .u8 k) (λA u W a=>aD ?_) ?_
 .have E:=F.o;go_simp
 refine tp Kn.le_refl Kn.le_trans 14 (.int .i64 (n:Nat)) ?_;refine rJ [11] al rfl (λi Y=> ?_);obtain rfl:=ar.1 Y;clear Y;refine oz rfl al (λK B W a=> ?_);refine uH (.slice (some ⟨W.heap.size,0,none⟩) 1 1) (W.alloc (.cells #[.int .u8 k] 5)) ⟨(W.heap.size,5,#[.int .u8 k]):: [],none⟩ fN (λ_ h=>cj _ h) (Kn.C.add a ((aw W.heap.size W).alloc (ak _) _) (ak _) (Whole.made W _ _)) (B _ _ ?_);generalize W.heap.size=Z;go_simp;clear a B K W;refine Pf Kn.le_refl Kn.le_trans 12 (.string d) (λA u W a=>aD ?_) ?_
 .have N:=Kn.C.at_ a (u _ bj) (g:=Z) (t:=5) (cs:= #[.int .u8 k])
  have D:=bv (P:=prog) W 99 5 underlying99 underlying5 Z 0 1 1 [k] rfl (λq hq=>by
   obtain rfl:q=0:=af;rw[aW,N.at_];rfl) 9 underlying9
  rw[<-J.o]at D;go_simp
 refine Pf Kn.le_refl Kn.le_trans 13 (.string (b++d)) (λA u W a=>aD ?_) ?_
 .have hl:=I.o;go_simp
 refine gL Kn.le_refl Kn.le_trans 15 rfl al (λK B=> ?_);refine jl al ⟨(.string X),λA u W a=> ?_,?_⟩
 .refine cZ (f:=63) (args:= #[.string s.pm,.string (b++d),.int .i64 (n:Nat)]) fN ?_;refine(o.o W (L.o.below a.base) (M.o.below a.base)).mono ?_;rintro e W' ⟨rfl,hb⟩;exact⟨rfl,a.iC hb⟩
 go_simp;refine B _ ?_;clear B K;refine tp Kn.le_refl Kn.le_trans 16 ((.string X)) ?_;refine DK al ?_;intro W a;have O:=aa a.base;clear a
 go_wp2_with fail
 go_ret
 exact⟨rfl,O.o⟩
theorem UV(a:bC s)(h:cP w g gh vw re e s):
 Calls prog 23 #[.pointer (some ⟨g,0,none⟩)] w λr b=>r= .returned (.bool (x9 s))/\b=w:=by
 have c1:=h.Df a;have c2:=h.NC a;unfold x9;clear h a;cases c:s.on.iD
 all_goals
  rw[c]at c1
  go_enter func23,ntmps23
  go_wp2_with fail
  go_ret
  exact⟨by first|rfl|simp,rfl⟩
theorem XK(a:bC s)(h:cP w g gh vw re e s):
 Calls prog 43 #[.pointer (some ⟨g,0,none⟩)] w λr b=>r= .returned (.string s.out)/\cP b g gh vw re e {s with out:=⟨#[]⟩}/\w.grownBy b (some g):=by
 have c1:=h.Xt a;have d:=Lay.free h 141;have H:=aa (h.zd a ⟨#[]⟩);have c:=aa (aY (w:=w) ⟨g,141,none⟩ rfl (.string ⟨#[]⟩));clear h a
 go_enter func43,ntmps43
 go_wp2_with fail
 go_ret
 exact⟨rfl,H.o,c.o⟩
attribute [local go_sem ↓] BN BO Go.wp_at_zero Go.wp_at_succ
attribute [local go_sem] cr cD
theorem D8(m:de)(i vs j k:cH)(hm:Cb m)(c:1<=(db m).size)(d:(db m).size<=32768)(q:bC s)(t:s.wn<=1000000000)(u:s.out.size<=1000000000000000)(v:s.since<=1000000000000000)(x:m0 w)(y:w.rangeAt 25 0 (fG.map (Value.int .u32)))(z:w.rangeAt 26 0 j9)(A:kb w.heap.size w i vs j k m)(h:cP w g gh vw re e s):
 Calls prog 42 #[.pointer (some ⟨g,0,none⟩),.agg (dP m.kind i vs j k)] w λr B=>r= .returned (.tuple #[])/\cP B g gh vw re e (l6 s m)/\w.grownBy B (some g):=by
 have l:=aa (λW (a:Below w.heap.size w W)=>EB w.heap.size i vs j k m hm W (A.same (eR.cL a (ak _))) a.size (x.below a));have n:=aa (λW (a:Below w.heap.size w W)=>Sa (w:=W) (db m) q c d t u v (cT y a) (cT z a) (h.below a h.inside));obtain⟨I,b⟩:=aP (dP m.kind i vs j k);have f:=aa b;rw[<-b]at l⊢;unfold l6;obtain⟨X,C⟩:=aP (db m);rw[<-C]at l n⊢;obtain⟨F,hF⟩:=aP (nR s X);rw[<-hF]at n⊢;clear hm c d q t u v x y z A h b C hF
 go_enter func42,ntmps42
 go_upto_region 1 with(fail)
 refine aU (λW=>Below w.heap.size w W/\Whole W w.heap.size 106 I) ⟨by go_grown,Whole.new rfl rfl⟩ ?_;intro J ⟨D,o⟩;have p:=aa D;have K:=(At.j o).R (m:=5) (by rw[f.o];rfl);have L:=(At.j o).row (m:=5) (by rw[f.o];rfl);clear D o
 go_wp2_with fail
 refine(l.o J p.o).mono ?_;rintro r M ⟨rfl,a⟩;have E:=aa (p.o.trans (a.mono p.o.size));clear a K L
 go_wp2_with fail
 refine(n.o M E.o).mono ?_;rintro r P ⟨rfl,G,H⟩;have N:=aa G;have O:=aa (aZ (bR E.o (some g)) H);clear G H
 go_wp2_with fail
 go_end0
 exact⟨rfl,N.o,O.o⟩
end
end Go.Proofs.P
namespace Go.Proofs.P
attribute [local go_sem ↓] iw iy Go.wp_at_zero Go.wp_at_succ
attribute [local go_sem] cr cD
theorem PV{a b:bB}(h:a.data.toList=b.data.toList):a=b:=by
 obtain⟨a⟩:=a;obtain⟨b⟩:=b;congr 1;exact tr h
theorem jG{l:aR}(h:jr l):∀z∈l,0<=z/\z<=255:=λz a=>by
 obtain⟨i,b,rfl⟩:=List.getElem_of_mem a;have:=h i;unfold ix at this;simpa[List.getD,b]using this
theorem Nv(s:bB):strOfNums (cG mM++cG s)=dB (bI s):=by
 unfold dB gN cG;rw[aj]
theorem PO(s:bB)(i:s.size<=1000000)(w:ay):
 Calls prog 186 #[.string s] w λe p=>e= .returned (.string (dB (bI s)))/\Below w.heap.size w p:=by
 have f:=aa i;have j:=aa (Nv s);rw[<-j.o];obtain⟨X,d⟩:=aP (cG mM++cG s);have b:=aa d
 have g:=aa (show∀v∈X,0<=v/\v<=255 by
  rw[d];intro v q;rcases bT.1 q with h|h<;>exact lN _ v h)
 rw[<-d];clear i j d
 go_enter func186,ntmps186
 go_upto_region 2 with(fail)
 refine aU (λW=>Below w.heap.size w W/\ec w.heap.size w.heap.size [] W/\w.heap.size<=W.heap.size) ⟨by go_grown,ec.fresh _ (dR _ _),bj⟩ ?_;intro r ⟨k,l,m⟩;have t:=aa k;have u:=aa l;have n:=aa m;clear k l m
 go_wp2_with fail
 refine(DS mM an w.heap.size w.heap.size [] r u.o bj n.o).mono ?_;rintro e x ⟨rfl,c,a⟩;have y:=aa c;have z:=aa (t.o.trans (a.below (ak _) (ak _)));have A:=aa (ap n.o a.size);clear c a
 go_wp2_with fail
 refine(DS s (dp f.o) w.heap.size w.heap.size _ x y.o (by rw[eo,eQ];decide) A.o).mono ?_;rintro e o ⟨rfl,c,a⟩;have B:=aa (by rw[b.o];exact c:ec w.heap.size w.heap.size X o);have C:=aa (z.o.trans (a.below (ak _) (ak _)));clear c a
 go_wp2_with fail
 refine(fK w.heap.size w.heap.size X g.o o (iJ.of B.o) (by rw[b.o];intro h;have:=aA List.length h;rw[am,eQ]at this;simp at this)).mono ?_;rintro e E ⟨rfl,_,a⟩;have D:=aa (C.o.trans (a.below (ak _) (ak _)));clear a
 go_wp2_with fail
 go_ret
 exact⟨rfl,D.o⟩
theorem Od(l:aR)(hl:dn l)(w:ay):
 Calls prog 152 #[.agg (ai .u8 l)] w λe n=>e= .returned (.string (dB l))/\Below w.heap.size w n:=by
 have f:=aa hl.1;obtain⟨S,b⟩:=aP (strOfNums l);have c:bI S=l:=by rw[b];exact cJ (jG hl.2)
 have g:=aa (λW=>PO S (by rw[<-aj,c,hl.1];decide) W);rw[c]at g;have o:=aa b;clear b c hl
 go_enter func152,ntmps152
 go_upto_region 1 with(fail)
 refine aU (λW=>Below w.heap.size w W/\Whole W w.heap.size 22 (ai .u8 l)) ⟨by go_grown,Whole.new rfl rfl⟩ ?_;intro d ⟨i,j⟩;have k:=aa i;have a:=bv (P:=prog) d 99 5 underlying99 underlying5 w.heap.size 0 32 32 l f.o (ey d _ _ l 32 j f.o) 9 underlying9;rw[<-o.o]at a;clear i j
 go_wp2_with fail
 refine(g.o d).mono ?_;rintro e q ⟨rfl,m⟩;have p:=aa (k.o.trans (m.mono k.o.size));clear m a
 go_wp2_with fail
 go_ret
 exact⟨rfl,p.o⟩
theorem Lv(l:aR)(hl:l.length=64)(f:jr l)(w:ay):
 Calls prog 154 #[.agg (ai .u8 l)] w λe o=>e= .returned (.string (dB l))/\Below w.heap.size w o:=by
 have g:=aa hl;obtain⟨S,b⟩:=aP (strOfNums l);have c:bI S=l:=by rw[b];exact cJ (jG f)
 have i:=aa (λW=>PO S (by rw[<-aj,c,hl];decide) W);rw[c]at i;have p:=aa b;clear b c hl f
 go_enter func154,ntmps154
 go_upto_region 1 with(fail)
 refine aU (λW=>Below w.heap.size w W/\Whole W w.heap.size 97 (ai .u8 l)) ⟨by go_grown,Whole.new rfl rfl⟩ ?_;intro d ⟨j,k⟩;have m:=aa j;have a:=bv (P:=prog) d 99 5 underlying99 underlying5 w.heap.size 0 64 64 l g.o (ey d _ _ l 64 k g.o) 9 underlying9;rw[<-p.o]at a;clear j k
 go_wp2_with fail
 refine(i.o d).mono ?_;rintro e r ⟨rfl,n⟩;have q:=aa (m.o.trans (n.mono m.o.size));clear n a
 go_wp2_with fail
 go_ret
 exact⟨rfl,q.o⟩
def Xo(s3:iV)(c b:ByteArray)(size k:Nat):ByteArray ⊕ Nat:=match s3 with
 | .bad a=> .inr a.block
 | .ok _=>if c=mM/\b.size=size then .inl b else .inr k
def Ie(E:Nat->Addr):ByteArray ⊕ Nat->Value
 | .inl x=> .tuple #[.string x,.nilIface]
 | .inr k=> .tuple #[.string ⟨#[]⟩,bM (E k)]
theorem RN(E:gn)(s:bB)(Z:s.size<=1000000)(size k:Nat)(hz:size<=1000)(w:ay)(J:ts w E)(V:30<=w.heap.size):
 Calls prog 192 #[.string s,.int .i64 (size:Nat),bM (E k)] w λe c=>e= .returned (Ie E (fy s size k))/\Below w.heap.size w c:=by
 have d:=xq E 1 3 s.size (.ok s);rw[show ku E (.ok s)= .ok s from rfl]at d;obtain⟨z,s1,q⟩:∃x y,fh (dA 1) (dA 3) s.size (.ok s)=(x,y):=⟨_,_,rfl⟩;have f:=xq E 1 3 s.size s1;obtain⟨i,s2,r⟩:∃x y,fh (dA 1) (dA 3) s.size s1=(x,y):=⟨_,_,rfl⟩;have K:=Mh E 2 s2;obtain⟨s3,u⟩:∃y,wy (dA 2) s2=y:=⟨_,rfl⟩
 have X:fy s size k=Xo s3 z i size k:=by
  unfold fy;unfold Xo;simp only[q,r,u];cases s3<;>rfl
 rw[q]at d;rw[r]at f;rw[u]at K;dsimp only at d f K
 have A:Hid (∀g W,jF W g (.ok s)->W.cell? ⟨1,0,none⟩=some (bM (E 1))->W.cell? ⟨3,0,none⟩=some (bM (E 3))->30<=g->Calls prog 143 #[.pointer (some ⟨g,0,none⟩),.int .i64 s.size] W λe c=>e= .returned (.string z)/\jF c g (ku E s1)/\j5 W.heap.size g W c):=aa (λg W h M N O=>by
  have:=wG g (.ok s) (E 1) (E 3) s.size af W h M N O;rw[d]at this;exact this)
 have B:Hid (∀g W,jF W g (ku E s1)->W.cell? ⟨1,0,none⟩=some (bM (E 1))->W.cell? ⟨3,0,none⟩=some (bM (E 3))->30<=g->Calls prog 143 #[.pointer (some ⟨g,0,none⟩),.int .i64 s.size] W λe c=>e= .returned (.string i)/\jF c g (ku E s2)/\j5 W.heap.size g W c):=aa (λg W h M N O=>by
  have:=wG g (ku E s1) (E 1) (E 3) s.size af W h M N O;rw[f]at this;exact this)
 have C:Hid (∀g W,jF W g (ku E s2)->W.cell? ⟨2,0,none⟩=some (bM (E 2))->Calls prog 147 #[.pointer (some ⟨g,0,none⟩)] W λe c=>e= .returned (AR (ku E s3))/\jF c g (ku E s3)/\j5 W.heap.size g W c):=aa (λg W h cF=>by
  have:=EY g (ku E s2) (E 2) W h cF;rw[K]at this;exact this)
 have P:=aa X;have j:=aa (J.var 1 an);have l:=aa (J.var 3 an);have b:=aa (J.var 2 an);have D:=aa V;obtain⟨R,Y⟩:=aP (fy s size k);rw[<-Y]at P⊢;have HZ:=aa hz;clear d f K q r u X J V Y hz Z;unfold bM
 go_enter func192,ntmps192
 go_wp2_with fail
 refine(sM s _).mono ?_;rintro e w1 ⟨rfl,rfl⟩;have o:jF (w.alloc (.cells #[.string s,.nilIface] 244)) w.heap.size (.ok s):=Whole.made w _ _;have L:Below w.heap.size w (w.alloc (.cells #[.string s,.nilIface] 244)):=(Below.refl _ _).alloc (Nat.le_refl _) _;have F:=aa (A.o _ _ o ((L.cell (block_lt_of_cell j.o)).trans j.o) ((L.cell (block_lt_of_cell l.o)).trans l.o) (dp D.o));have Q:=aa L;clear o L A
 go_wp2_with fail
 refine F.o.mono ?_;rintro e w2 ⟨rfl,o,p⟩;have m:=aa (Q.o.trans (p.below bj (Nat.le_refl _)));have G:=aa (B.o _ _ o ((m.o.cell (block_lt_of_cell j.o)).trans j.o) ((m.o.cell (block_lt_of_cell l.o)).trans l.o) (dp D.o));have S:=aa (show w.heap.size<=w2.heap.size from m.o.size);clear o p B F
 go_wp2_with fail
 refine G.o.mono ?_;rintro e w3 ⟨rfl,o,p⟩;have v:=aa (m.o.trans (p.below S.o (Nat.le_refl _)));have H:=aa (C.o _ _ o ((v.o.cell (block_lt_of_cell b.o)).trans b.o));have U:=aa (show w.heap.size<=w3.heap.size from v.o.size);clear o p C G
 go_wp2_with fail
 refine H.o.mono ?_;rintro e w4 ⟨rfl,_,p⟩;have n:=aa (v.o.trans (p.below U.o (Nat.le_refl _)));clear p H;cases s3 with
 |bad a=>
  have I:=aa (show R= .inr a.block from P.o);unfold ku AR bM
  go_wp2_with fail
  go_ret2
  exact⟨by rw[I.o];rfl,n.o⟩
 |ok t=>
  have I:=aa (show R=if z=mM/\i.size=size then .inl i else .inr k from P.o);unfold ku AR
  by_cases d:z=mM
  .subst d;unfold mM
   by_cases f:i.size=size
   .have b:=aa (by rw[I.o,if_pos ⟨rfl,f⟩]:R= .inl i);have hi:((i.size:Int) !=(size:Int))=false:=by simp;omega
    have hj:(i.size:Int)=size:=af;clear f
    go_wp2_with fail
    go_ret2
    exact⟨by rw[b.o];rfl,n.o⟩
   .have b:=aa (show R= .inr k by rw[I.o,if_neg (λh=>f h.2)]);have hi:((i.size:Int) !=(size:Int))=true:=by simp;omega
    have hj:¬(i.size:Int)=size:=af;clear f
    go_wp2_with fail
    go_ret2
    exact⟨by rw[b.o];rfl,n.o⟩
  .have b:=aa (show R= .inr k by rw[I.o,if_neg (λh=>d h.1)]);unfold mM at d;have f:¬z.toList= [115,115,104,45,101,100,50,53,53,49,57]:=λe=>d (by rw[ByteArray.toList_eq]at e;exact PV e)
   go_wp2_with fail
   go_ret2
   exact⟨by rw[b.o];rfl,n.o⟩
def Jz(E:Nat->Addr)(w0:World)(r:ByteArray ⊕ Nat)(e:Ending)(w:World):Prop:=match r with
 | .inl x=>e= .returned (.tuple #[.agg (ai .u8 (bI x)),.nilIface])
 | .inr k=> ∃v,e= .returned (.tuple #[.agg (ai .u8 (List.replicate 32 0)),v])/\Xi w0 w E ⟨#[107,101,121]⟩ k v
theorem De(E:gn)(s:bB)(M:s.size<=1000000)(w:ay)(B:ts w E)(N:30<=w.heap.size):
 Calls prog 157 #[.string s] w λe O=>Jz E w (fy s 32 9) e O/\Below w.heap.size w O:=by
 have i:=aa (λW (l:Below w.heap.size w W)=>RN E s M 32 9 an W (B.below l) (Nat.le_trans N l.size));have Q:=aa (B.var 9 an)
 have n:Hid (∀x,fy s 32 9= .inl x->x.size=32):=aa (λx f=>by
  unfold fy at f;dsimp only at f
  split at f
  .cases f
  .split at f
   .rename_i h;injection f with f;subst f;exact h.2
   .cases f)
 obtain⟨R,S⟩:=aP (fy s 32 9);rw[<-S]at i n⊢;clear S B M N
 go_enter func157,ntmps157
 go_upto_region 1 with(fail)
 refine aU (λW=>Below w.heap.size w W/\Whole W w.heap.size 22 (ai .u8 (List.replicate 32 0))) ⟨by go_grown,Whole.new rfl rfl⟩ ?_;intro U ⟨y,V⟩;have C:=aa y;have D:=aa V;have c1:U.cell? ⟨9,0,none⟩=some (bM (E 9)):=(y.cell (block_lt_of_cell Q.o)).trans Q.o;have F:=aa (i.o U y);unfold bM at c1 F;clear y V i
 go_wp2_with fail
 refine F.o.mono ?_;rintro e a ⟨rfl,l⟩;have z:=aa (C.o.trans (l.mono C.o.size));have G:=aa (D.o.below l D.o.inside);clear l F c1 C D;cases R with
 |inr H=>
  unfold Ie bM
  go_wp2_with fail
  refine(oF ⟨#[107,101,121]⟩ _ _ a).mono ?_;rintro e Y ⟨rfl,rfl⟩;have o:=G.o.alloc (.cells #[.string ⟨#[107,101,121]⟩,bM (E H)] 86);have b:=aa (z.o.alloc z.o.size (.cells #[.string ⟨#[107,101,121]⟩,bM (E H)] 86));have I:=aa (Whole.made a 86 #[.string ⟨#[107,101,121]⟩,bM (E H)]);have r:=aa (show w.heap.size<a.heap.size from G.o.inside);have g:=aa o;have t:=aa (show(#[ao,ao,ao,ao,ao,ao,ao,ao,ao,ao,ao,ao,ao,ao,ao,ao,ao,ao,ao,ao,ao,ao,ao,ao,ao,ao,ao,ao,ao,ao,ao,ao]:Array Value).all (·.oneCell')=true from iO .u8 (List.replicate 32 0));unfold bM at*;clear o
  go_wp2_with (refine wpList_store_row rfl 22 (.tmp 2) (.tmp 14) rfl w.heap.size #[ao,ao,ao,ao,ao,ao,ao,ao,ao,ao,ao,ao,ao,ao,ao,ao,ao,ao,ao,ao,ao,ao,ao,ao,ao,ao,ao,ao,ao,ao,ao,ao] rfl rfl 22 _ g.o gE rfl t.o ?_)
  refine bodyPost_ret (dN (p:=2) (u:=3) rfl _ _ w.heap.size 22 #[ao,ao,ao,ao,ao,ao,ao,ao,ao,ao,ao,ao,ao,ao,ao,ao,ao,ao,ao,ao,ao,ao,ao,ao,ao,ao,ao,ao,ao,ao,ao,ao] (0,0) _ rfl (g.o.row) underlying22 rfl gE) rfl ⟨⟨_,rfl,_,rfl,Nat.le_of_lt r.o,I.o.only (bW _ _ _) (bE (Nat.ne_of_gt r.o))⟩,?_⟩;exact b.o.grown (bW _ _ _) b.o.size (λq v=>by injection v with v;omega)
 |inl x=>
  have j:x.size=32:=n.o x rfl;unfold Ie;obtain⟨L,A⟩:=aP (bI x);have J:=aa A;have c:=aa (by rw[A,aj,j]:L.length=32);have K:=run_bytes_of_string (P:=prog) a 9 99 5 x underlying9 underlying99 underlying5;have d:=rY.made (w:=a) rfl x (grownCap a x.size 0 5) 5;rw[<-A]at d;rw[j]at K d;have k:=(G.o.alloc (.cells (bytesRow x (grownCap a 32 0 5)) 5 ((bytesRow x (grownCap a 32 0 5)).size,(bytesRow x (grownCap a 32 0 5)).size+1))).drew;have b:=aa (bA (z.o.alloc z.o.size (.cells (bytesRow x (grownCap a 32 0 5)) 5 ((bytesRow x (grownCap a 32 0 5)).size,(bytesRow x (grownCap a 32 0 5)).size+1))) 1);have X:=run_arrayAt (P:=prog) (w:=(a.alloc (.cells (bytesRow x (grownCap a 32 0 5)) 5 ((bytesRow x (grownCap a 32 0 5)).size,(bytesRow x (grownCap a 32 0 5)).size+1))).drew) 22 5 32 (some ⟨a.heap.size,0,none⟩) 32 (grownCap a 32 0 5) underlying22 an;have Z:=(At.pi d).R (m:=32) (by rw[ag,c.o]);have r1:=(At.pi d).row (m:=32) (by rw[ag,c.o]);have l2:=(At.j k).R (m:=32) (by rw[ag];rfl);have ro:=bY .u8 L 32 c.o;have g:=aa k;clear d k A j
  go_wp2_with fail
  refine bodyPost_ret (dN (p:=2) (u:=3) rfl _ _ w.heap.size 22 (ai .u8 L) (0,0) _ rfl (g.o.fill (by rw[ag,ag,c.o];rfl)) underlying22 rfl (by rw[ag,c.o];exact gE)) rfl ⟨by rw[J.o];rfl,?_⟩;exact b.o.grown (aG _ _ _ _) b.o.size (λq v=>by injection v with v;omega)
end Go.Proofs.P
