/- Lemmas on which SessionPins rests. -/
import Derived.Lib.SlBytesConst
import Derived.Test.YtcjcibnggioknaaGreatDoorZ18
set_option maxRecDepth 100000
set_option maxHeartbeats 40000000
set_option linter.unusedVariables false
open Go.RowKit Go.Spk
open Go.Proofs.Tryz
namespace Go.Proofs.P
def OD(B b:Nat)(a:World)(s:Option (List Int))(W:World):Prop:=j5 B b a W/\B<=W.heap.size/\ ∀xs,s=some xs->ec B b xs W
theorem OD.drew{B b:Nat}{a W:ay}{s:Option (List Int)}(h:OD B b a s W):OD B b a s W.drew:=
 ⟨h.1.trans (j5.cL ((bA (aw _ W) 1).mono h.2.1)),h.2.1,λxs c=>(h.2.2 xs c).below (bA (aw _ W) 1)⟩
theorem OD.whole{B b g:Nat}{t:fg}{cs:gJ}{a W:ay}{s:Option (List Int)}(h:OD B b a s W)(c:Whole a g t cs)(d:g<B)(e:g≠b):Whole W g t cs:=(h.1.block g d e).trans c
theorem GI(S:bB):S.extract 0 S.size=S:=p7 bj
attribute [local go_sem ↓] iw iy Go.wp_at_zero Go.wp_at_succ
attribute [local go_sem] cr cD
theorem Gx(l k id:aR)(h0:dn l)(h1:dn k)(h2:dn id)(n:Int)(hl:0<=n/\n<=255)(w:ay)(hw:dt w)(hf:dJ w):
 Calls prog 219 #[.agg (ai .u8 l),.agg (ai .u8 k),.agg (ai .u8 id),.int .u8 n,.int .i64 32] w λr w'=>r= .returned (.string (strOfNums (iu l k id n)))/\Below w.heap.size w w':=by
 obtain⟨F,H⟩:=aP (strOfNums l);obtain⟨QH,I⟩:=aP (strOfNums k);obtain⟨o,J⟩:=aP (strOfNums id);obtain⟨p,L⟩:=aP (strOfNums [n]);have av:bI F=l:=by rw[H];exact cJ (jG h0.2)
 have ax:bI QH=k:=by rw[I];exact cJ (jG h1.2)
 have az:bI o=id:=by rw[J];exact cJ (jG h2.2)
 have aB:bI p= [n]:=by rw[L];exact cJ (λz f=>by obtain rfl:=ar.1 f;exact hl)
 obtain⟨G,u⟩:=aP (gN (vY l)++k)
 have aC:∀z∈vY l,0<=z/\z<=255:=λz f=>by
  have Y:∀z∈l.dropWhile (· ==0),0<=z/\z<=255:=λz f=>jG h0.2 z ((List.dropWhile_sublist _).mem f);unfold vY at f
  split at f
  .cases f
  .rename_i y r a0;rw[a0]at Y
   split at f
   .rcases dz.1 f with rfl|f
    .omega
    .exact Y z f
   .exact Y z f
 have Z:∀z∈G,0<=z/\z<=255:=by
  rw[u];intro z f;rcases bT.1 f with f|f
  .unfold gN at f;rcases bT.1 f with f|f
   .exact qK _ _ _ z f
   .exact aC z f
  .exact jG h1.2 z f
 have aE:G.length<=200/\G≠ []:=by
  have hm:=vI l;rw[h0.1]at hm;have e:G.length=4+(vY l).length+32:=by rw[u];unfold gN;simp only[List.length_append,eW,h1.1]
  refine⟨af,λh=> ?_⟩;rw[h]at e;simp only[List.length_nil]at e;omega
 obtain⟨S,hS⟩:=aP (strOfNums G);have aF:bI S=G:=by rw[hS];exact cJ Z
 have v:gI [S,p++o]=G++([n]++id):=by rw[eD,eD,nf,bP,aF,gP,aB,az]
 have a1:(gI [S,p++o]).length<=1000:=by rw[v];simp only[List.length_append,List.length_cons,List.length_nil,h2.1];omega
 have aG:iu l k id n=mj false (gI [S,p++o]):=by
  rw[v,u];unfold iu;simp only[List.append_assoc]
 rw[aG]
 have A:=aa (λW g (hg:Whole W g 9 #[.string S,.string (p++o)]) (hw:dt W) (hf:dJ W)=>pL (.slice (some ⟨g,0,none⟩) 2 2) [S,p++o] W (.inr ⟨g,0,2,rfl,ak _,hg.inside,λj x hj=>by
  match j,hj with
  |0,hj=>rw[hg.at_];simpa using hj
  |1,hj=>rw[hg.at_];simpa using hj
  |j+2,hj=>simp at hj⟩) bj af hw hf)
 obtain⟨R,hR⟩:=aP (mj false (gI [S,p++o]));have D:=aa (by rw[hR];exact eG _ _:R.length=32);rw[<-hR]at A⊢;obtain⟨M,N⟩:=aP (strOfNums R);have a2:=aa N;have O:M.size=32:=by rw[N,bG,D.o]
 have a3:=aa (by rw[<-O];exact GI M:M.extract 0 32=M);have a4:=aa O;have HX:=aa (by rw[av,ax,u];rfl:([]:List Int)++(qJ (vY (bI F)).length 4 4++vY (bI F))++bI QH=G);have a5:=aa aE;have a6:=aa Z;have a7:=aa hS;have aK:=aa h0.1;have aS:=aa h1.1;have aV:=aa h2.1;have a8:=aa H;have a9:=aa I;have ba:=aa J;have bb:=aa L;have HZ:=aa (by rw[H,I,J,L,bG,bG,bG,bG,h0.1,h1.1,h2.1];exact⟨rfl,rfl,rfl,rfl⟩:F.size=32/\QH.size=32/\o.size=32/\p.size=1);have aX:=aa (by rw[HZ.o.2.2.1,HZ.o.2.2.2];decide:p.size+o.size<=9223372036854775807);have ab:=aa (by rw[O];decide:(⟨#[]⟩:ByteArray).size+M.size<=9223372036854775807);have bc:=aa (em M);have bd:=aa hw;have be:=aa hf;rw[<-N];clear H I J L av ax az aB u aC Z aE hS aF v a1 aG hR N O hw hf h0 h1 h2 hl
 go_enter func219,ntmps219
 go_upto_region 3 with(fail)
 refine aU (λW=>Below w.heap.size w W/\Whole W w.heap.size 22 (ai .u8 l)/\Whole W (w.heap.size+1) 22 (ai .u8 k)/\Whole W (w.heap.size+2) 22 (ai .u8 id)/\ec (w.heap.size+4) (w.heap.size+3) [] W/\w.heap.size+4<=W.heap.size) ⟨by go_grown,(((Whole.new rfl rfl).alloc _).alloc _).alloc _,((Whole.new bj rfl).alloc _).alloc _,(Whole.new bj rfl).alloc _,ec.fresh _ (Whole.new bj rfl),bj⟩ ?_;intro W0 ⟨kB,k0,k1,k2,kO,kS⟩;have B0:=aa kB;have K0:=aa k0;have K1:=aa k1;have K2:=aa k2;obtain⟨B,Q⟩:=aP (w.heap.size+4);obtain⟨b,U⟩:=aP (w.heap.size+3);have D0:=aa (show OD B b W0 (some []) W0 from⟨j5.refl _ _ _,by rw[Q];exact kS,λxs s=>by injection s with s;subst s;rw[Q,U];exact kO⟩);rw[<-U];have V:=aa Q;have X:=aa U;clear kB k0 k1 k2 kO kS Q U;refine jq (OD B b W0) (λ_ _=>True) (some []) al D0.o.drew ?_;refine gL (λ_=>trivial) (λ_ _ _ _ _=>trivial) 0 rfl al (λK d=> ?_);refine jl al ⟨.slice (some ⟨w.heap.size,0,none⟩) 32 32,λs' k W a=> ?_,?_⟩
 .refine aD ?_;go_simp
 go_simp;refine d _ ?_;clear d K;refine gL (λ_=>trivial) (λ_ _ _ _ _=>trivial) 1 rfl al (λK d=> ?_);refine jl al ⟨.string F,λs' k W a=> ?_,?_⟩
 .refine aD ?_;have c:=bv (P:=prog) W 99 5 underlying99 underlying5 w.heap.size 0 32 32 l aK.o (ey W _ _ l 32 (a.whole K0.o (by rw[V.o];omega) (by rw[X.o];omega)) aK.o) 9 underlying9;rw[<-a8.o]at c;go_simp
 go_simp;refine d _ ?_;clear d K;refine gL (λ_=>trivial) (λ_ _ _ _ _=>trivial) 3 rfl al (λK d=> ?_);refine jl al ⟨.slice (some ⟨w.heap.size+1,0,none⟩) 32 32,λs' k W a=> ?_,?_⟩
 .refine aD ?_;go_simp
 go_simp;refine d _ ?_;clear d K;refine gL (λ_=>trivial) (λ_ _ _ _ _=>trivial) 4 rfl al (λK d=> ?_);refine jl al ⟨.string QH,λs' k W a=> ?_,?_⟩
 .refine aD ?_;have c:=bv (P:=prog) W 99 5 underlying99 underlying5 (w.heap.size+1) 0 32 32 _ aS.o (ey W _ _ _ 32 (a.whole K1.o (by rw[V.o];omega) (by rw[X.o];omega)) aS.o) 9 underlying9;rw[<-a9.o]at c;go_simp
 go_simp;refine d _ ?_;clear d K;refine rJ [2] al rfl (λi E=> ?_);obtain rfl:=ar.1 E;clear E;refine oz rfl al (λK d W a=> ?_);refine qr 187 #[.pointer (some ⟨b,0,none⟩),.string F] W fN ?_;refine(MF F (by rw[HZ.o.1];decide) B b [] W (a.2.2 _ rfl) an a.2.1).mono ?_;rintro r W' ⟨rfl,ho,hn⟩;refine⟨_,some ([]++(qJ (vY (bI F)).length 4 4++vY (bI F))),rfl,trivial,⟨a.1.trans hn.1,ap a.2.1 hn.1.size,λxs s=>by injection s with s;subst s;exact ho⟩,d _ _ ?_⟩;clear ho hn W';go_simp;clear a d K W;refine rJ [5] al rfl (λi E=> ?_);obtain rfl:=ar.1 E;clear E;refine oz rfl al (λK d W a=> ?_);refine qr 75 #[.pointer (some ⟨b,0,none⟩),.string QH] W fN ?_
 refine(wT QH (by rw[HZ.o.2.1];decide) B b _ W (a.2.2 _ rfl) (by
  have hm:=vI (bI F);rw[aj,HZ.o.1]at hm;simp only[List.length_append,eW];omega) a.2.1).mono ?_
 rintro r W' ⟨rfl,ho,hn⟩;refine⟨_,some G,rfl,trivial,⟨a.1.trans hn.1,ap a.2.1 hn.1.size,λxs s=>by injection s with s;subst s;rw[<-HX.o];exact ho⟩,d _ _ ?_⟩;clear ho hn W';go_simp;clear a d K W;refine rJ [6] al rfl (λi E=> ?_);obtain rfl:=ar.1 E;clear E;refine oz rfl al (λK d W a=> ?_);refine qr 76 #[.pointer (some ⟨b,0,none⟩)] W fN ?_;refine(fK B b G a6.o W (iJ.of (a.2.2 _ rfl)) a5.o.2).mono ?_;rintro r W' ⟨rfl,bg,hA⟩;refine⟨.string S,none,by rw[a7.o],trivial,⟨a.1.trans hA,ap a.2.1 hA.size,λxs s=>by cases s⟩,d _ _ ?_⟩;clear bg hA W';go_simp;clear a d K W;refine gL (λ_=>trivial) (λ_ _ _ _ _=>trivial) 7 rfl al (λK d=> ?_);refine jl al ⟨.string S,λs' k W a=> ?_,?_⟩
 .refine aD ?_;go_simp
 go_simp;refine d _ ?_;clear d K;refine DK al ?_;intro W1 a;have B1:=aa (show Below w.heap.size w W1 from B0.o.trans (a.1.below (by rw[V.o];omega) (by rw[X.o];omega)));have HI:=aa (show Whole W1 (w.heap.size+2) 22 (ai .u8 id)from a.whole K2.o (by rw[V.o];omega) (by rw[X.o];omega));clear a
 go_upto_region 5 with(fail)
 refine jq (Kn.C W1) Kn.le ⟨[],none⟩ al (Kn.start W1) ?_;refine tp Kn.le_refl Kn.le_trans 0 (.int .u8 n) ?_;refine tp Kn.le_refl Kn.le_trans 3 (.slice (some ⟨w.heap.size+2,0,none⟩) 32 32) ?_;refine Pf Kn.le_refl Kn.le_trans 4 (.string o) (λs' k W a=>aD ?_) ?_
 .have c:=bv (P:=prog) W 99 5 underlying99 underlying5 (w.heap.size+2) 0 32 32 id aV.o (ey W _ _ id 32 (HI.o.below a.base HI.o.inside) aV.o) 9 underlying9;rw[<-ba.o]at c;go_simp
 refine rJ [1] al rfl (λi E=> ?_);obtain rfl:=ar.1 E;clear E;refine oz rfl al (λK d W a=> ?_);refine uH (.slice (some ⟨W.heap.size,0,none⟩) 1 1) (W.alloc (.cells #[.int .u8 n] 5)) ⟨(W.heap.size,5,#[.int .u8 n]):: [],none⟩ fN (λ_ h=>cj _ h) (Kn.C.add a ((aw W.heap.size W).alloc (ak _) _) (ak _) (Whole.made W _ _)) (d _ _ ?_);generalize W.heap.size=gb;go_simp;clear a d K W;refine Pf Kn.le_refl Kn.le_trans 2 (.string p) (λs' k W a=>aD ?_) ?_
 .have bh:=Kn.C.at_ a (k _ bj) (g:=gb) (t:=5) (cs:= #[.int .u8 n])
  have c:=bv (P:=prog) W 99 5 underlying99 underlying5 gb 0 1 1 [n] rfl (λq hq=>by
   obtain rfl:q=0:=af;rw[aW,bh.at_];rfl) 9 underlying9
  rw[<-bb.o]at c;go_simp
 refine Pf Kn.le_refl Kn.le_trans 5 (.string (p++o)) (λs' k W a=>aD ?_) ?_
 .have hl:=aX.o;go_simp
 refine tp Kn.le_refl Kn.le_trans 6 (.string (p++o)) ?_;refine DK al ?_;intro W2 a;have B2:=aa (show Below w.heap.size w W2 from B1.o.trans (a.base.mono B1.o.size));clear a;obtain⟨MO,aY⟩:=aP (p++o);rw[<-aY]at A⊢;clear aY;have bl:(0:Int)<32:=an
 go_wp2_with fail
 refine gO 2 ?_;rw[dX]
 go_wp2_with fail
 refine(A.o _ _ (Whole.made _ _ _) (bd.o.below (B2.o.alloc B2.o.size _)) (be.o.below (B2.o.alloc B2.o.size _))).mono ?_;rintro r W3 ⟨rfl,aZ⟩;have B3:=aa ((B2.o.alloc B2.o.size (.cells #[.string S,.string MO] 9)).trans (aZ.mono (by simp;have:=B2.o.size;omega)));have ad:=Whole.new (w:=W3) (g:=W3.heap.size) (t:=22) (cs:= #[ao,ao,ao,ao,ao,ao,ao,ao,ao,ao,ao,ao,ao,ao,ao,ao,ao,ao,ao,ao,ao,ao,ao,ao,ao,ao,ao,ao,ao,ao,ao,ao]) rfl rfl;have lw:=(At.j ad).R (m:=32) rfl;have ro:=bY .u8 R 32 D.o;have HG:=aa ad;clear aZ ad
 go_upto_region 8 with(fail)
 refine aU (λW=>Below w.heap.size w W/\Whole W W3.heap.size 22 (ai .u8 R)) ⟨B3.o.trans ((pY _ _ _).mono B3.o.size),HG.o.fill (by rw[ag,D.o];rfl)⟩ ?_;intro W4 ⟨kB,kW⟩;have B4:=aa kB;have c:=bv (P:=prog) W4 99 5 underlying99 underlying5 W3.heap.size 0 32 32 R D.o (ey W4 _ _ R 32 kW D.o) 9 underlying9;rw[<-a2.o]at c;have hl:=ab.o;have bm:=bc.o;clear kB kW lw ro HG
 go_wp2_with fail
 rw[dX];have bn:M.size=32:=a4.o;have bk:(M.size:Int)=32:=af;have hex:=a3.o
 go_wp2_with fail
 go_ret
 refine⟨?_,B4.o⟩;show Ending.returned (.string (M.extract 0 (max (0:Int) (min 32 8160)).toNat))=_;rw[show(max (0:Int) (min 32 8160)).toNat=32 by decide,hex]
end Go.Proofs.P
namespace Go.Proofs.P
def zP:List Value:=av.map (Value.int .u8)
section
variable {d:Tmp}{x y:Operand}{ty:TypeId}{pos:String}{after:Array Edge}{gd:Option (Nat×Bool)}{a:Go.Act}{w:World}{K:Go.Act->World->Prop}{Q:Exit->Go.Act->World->Prop}
theorem Xe(b:jQ w (a.eval x) 64)(c:mZ 64 (a.eval y)):Oper.wp prog ⟨none,.store 71 x y,ty,pos,after,gd⟩ a w K Q=K (a.put none undef) (w.setCells (lY (a.eval x)) (lZ (a.eval x)) (a.eval y).cells.toList):=lj al b c
end
theorem YQ:(prog.info? 71).map (·.size)=some 64:=al
theorem tA(a b c:aR)(l:Int):∀z∈iu a b c l,0<=z/\z<=255:=kY _ _
theorem ni(a b c:aR)(l:Int):(iu a b c l).length=32:=eG _ _
attribute [local go_sem ↓] Ni Xe iw iy Go.wp_at_zero Go.wp_at_succ
attribute [local go_sem] cr cD
theorem YS(A B id:aR)(h0:dn A)(h1:dn B)(h2:dn id)(w:ay)(hw:dt w)(hf:dJ w):
 Calls prog 190 #[.agg (ai .u8 A),.agg (ai .u8 B),.agg (ai .u8 id)] w λr w'=>r= .returned (.agg (ai .u8 (iu A B id 67++iu A B id 68)))/\Below w.heap.size w w':=by
 have N:=aa (λW (hw:dt W) (hf:dJ W)=>Gx A B id h0 h1 h2 67 an W hw hf);have O:=aa (λW (hw:dt W) (hf:dJ W)=>Gx A B id h0 h1 h2 68 an W hw hf);obtain⟨j,E⟩:=aP (iu A B id 67);obtain⟨p,F⟩:=aP (iu A B id 68);have b:=aa (by rw[E];exact ni _ _ _ _:j.length=32);have g:=aa (by rw[F];exact ni _ _ _ _:p.length=32);have aB:∀z∈j,0<=z/\z<=255:=by rw[E];exact tA _ _ _ _
 have aC:∀z∈p,0<=z/\z<=255:=by rw[F];exact tA _ _ _ _
 rw[<-E]at N⊢;rw[<-F]at O⊢;obtain⟨u,G⟩:=aP (strOfNums j);obtain⟨v,H⟩:=aP (strOfNums p);have aZ:=aa (by rw[G];exact cJ aB:bI u=j);have a0:=aa (by rw[H];exact cJ aC:bI v=p);have a1:=aa (by rw[G,bG,b.o]:u.size=32);have a2:=aa (by rw[H,bG,g.o]:v.size=32);rw[<-G]at N;rw[<-H]at O;have I:=aa h0.1;have J:=aa h1.1;have K:=aa h2.1;have aE:=aa hw;have aF:=aa hf;clear E F aB aC G H h0 h1 h2 hw hf
 go_enter func190,ntmps190
 go_upto_region 2 with(fail)
 refine aU (λW=>Below w.heap.size w W/\Whole W w.heap.size 22 (ai .u8 A)/\Whole W (w.heap.size+1) 22 (ai .u8 B)/\Whole W (w.heap.size+2) 22 (ai .u8 id)/\Lay W (w.heap.size+3) 71 [zP,zP]/\Lay W (w.heap.size+4) 71 [zP,zP]/\W.heap.size=w.heap.size+5) ⟨by go_grown,((((Whole.new rfl rfl).alloc _).alloc _).alloc _).alloc _,(((Whole.new bj rfl).alloc _).alloc _).alloc _,((Whole.new bj rfl).alloc _).alloc _,(Whole.new bj (by first|rfl|kernel_rfl)).alloc _,Whole.new bj (by first|rfl|kernel_rfl),bj⟩ ?_;intro W0 ⟨D,k0,k1,L,M,k4,kz⟩;have B0:=aa D;have K0:=aa k0;have K1:=aa k1;have K2:=aa L;have K3:=aa M;have K4:=aa k4;have KZ:=aa kz;clear D k0 k1 L M k4 kz;have kc:=λ(W:World) (C:Array Value) (n c:Nat)=>Lib.run_convert_bytes_const (P:=prog) W 99 5 C n c underlying99 underlying5
 go_upto_region 3 with(fail)
 refine aU (λW=>Below W0.heap.size W0 W/\W.heap[W0.heap.size]?=some (.cells #[.int .u8 67,.int .u8 68] 5 (2,3))) ⟨?_,?_⟩ ?_
 .go_grown
 .exact dR _ _
 intro x ⟨D,kW⟩;have HK:=aa kW;have P0:=aa (show Lay x (w.heap.size+4) 71 [zP,zP]from K4.o.below D K4.o.inside);have P3:=aa (show Lay x (w.heap.size+3) 71 [zP,zP]from K3.o.below D K3.o.inside);have Q0:=aa (show Whole x w.heap.size 22 (ai .u8 A)from K0.o.below D K0.o.inside);have Q1:=aa (show Whole x (w.heap.size+1) 22 (ai .u8 B)from K1.o.below D K1.o.inside);have Q2:=aa (show Whole x (w.heap.size+2) 22 (ai .u8 id)from K2.o.below D K2.o.inside);have s:=aa (show Below w.heap.size w x from B0.o.trans (D.mono B0.o.size));have G0:=aa (ci.refl [w.heap.size+4] x);clear D kW kc;obtain⟨gk,Q⟩:=aP (W0.heap.size);rw[<-Q]at HK⊢;have aK:=aa (by rw[Q,KZ.o];omega:gk≠w.heap.size+4);clear Q;refine gO 3 ?_;rw[dX];have ck:x.cell? ⟨gk,0,none⟩=some (.int .u8 67):=by rw[Lib.cell_of_heap ((G0.o.block gk (aT.1 HK.o).1 (ek aK.o)).trans HK.o)];rfl
 have R:=G0.o.whole Q0.o bj;have S:=G0.o.whole Q1.o bj;have U:=G0.o.whole Q2.o bj;have V:=(At.j R).R (m:=32) (by rw[ag,I.o]);have X:=(At.j R).row (m:=32) (by rw[ag,I.o]);have Y:=(At.j S).R (m:=32) (by rw[ag,J.o]);have Z:=(At.j S).row (m:=32) (by rw[ag,J.o]);have ab:=(At.j U).R (m:=32) (by rw[ag,K.o]);have ad:=(At.j U).row (m:=32) (by rw[ag,K.o]);clear R S U
 go_wp2_with fail
 refine(N.o x (aE.o.below s.o) (aF.o.below s.o)).mono ?_;rintro r l ⟨rfl,hb⟩;have E1:=aa hb;clear hb V X Y Z ab ad ck;have i:u.size=32:=a1.o;have aj:=gD (P:=prog) l 9 99 5 u underlying9 underlying99 underlying5;have d:=rY.made (w:=l) rfl u (grownCap l 32 0 5) 5;rw[aZ.o]at d;have a:Below l.heap.size l ((l.alloc (.cells (bytesRow u (grownCap l 32 0 5)) 5 ((bytesRow u (grownCap l 32 0 5)).size,(bytesRow u (grownCap l 32 0 5)).size+1))).drew):=bA ((aw _ l).alloc (ak _) _) 1;have al:=run_arrayAt (P:=prog) (w:=(l.alloc (.cells (bytesRow u (grownCap l 32 0 5)) 5 ((bytesRow u (grownCap l 32 0 5)).size,(bytesRow u (grownCap l 32 0 5)).size+1))).drew) 22 5 32 (some ⟨l.heap.size,0,none⟩) 32 (grownCap l 32 0 5) underlying22 an;have lb:=(At.pi d).R (m:=32) (by rw[ag,b.o]);have rb:=(At.pi d).row (m:=32) (by rw[ag,b.o]);have hp:=((P0.o.below E1.o P0.o.inside).below a (P0.o.below E1.o P0.o.inside).inside);have e:([zP,zP]:List (List Value)).map List.length= [32,32]:=by simp[zP,av]
 have lp:=(hp.part 0 0 zP (by rw[e];rfl) rfl).R (m:=32) rfl;have ro:=bY .u8 j 32 b.o;have y:=aa hp;have f:=aa a;have aS:=aa e;clear d hp a e
 go_upto_region 6 with(fail)
 refine aU (λW=>ci [w.heap.size+4] x W/\Lay W (w.heap.size+4) 71 [j.map (Value.int .u8),zP]/\Below w.heap.size w W) ⟨((G0.o.step (ci.cL E1.o _)).step (ci.cL f.o _)).step (ci.bZ (aG _ _ _ _)),y.o.set 0 0 zP (j.map (Value.int .u8)) (by rw[aS.o];rfl) rfl (by rw[aM,b.o];rfl),((s.o.trans (E1.o.mono s.o.size)).trans (f.o.mono (ap s.o.size E1.o.size))).grown (aG _ _ _ _) (ap s.o.size (ap E1.o.size f.o.size)) (λq hq=>by injection hq with hq;omega)⟩ ?_;intro V1 ⟨k1,L,M⟩;have G1:=aa k1;have P1:=aa L;have t:=aa M;clear k1 L M aj al lb rb lp ro i y f
 go_wp2_with fail
 rw[dX];have ck:V1.cell? ⟨gk,1,none⟩=some (.int .u8 68):=by rw[Lib.cell_of_heap ((G1.o.block gk (aT.1 HK.o).1 (ek aK.o)).trans HK.o)];rfl
 have R:=G1.o.whole Q0.o bj;have S:=G1.o.whole Q1.o bj;have U:=G1.o.whole Q2.o bj;have V:=(At.j R).R (m:=32) (by rw[ag,I.o]);have X:=(At.j R).row (m:=32) (by rw[ag,I.o]);have Y:=(At.j S).R (m:=32) (by rw[ag,J.o]);have Z:=(At.j S).row (m:=32) (by rw[ag,J.o]);have ab:=(At.j U).R (m:=32) (by rw[ag,K.o]);have ad:=(At.j U).row (m:=32) (by rw[ag,K.o]);clear R S U
 go_wp2_with fail
 refine(O.o V1 (aE.o.below t.o) (aF.o.below t.o)).mono ?_;rintro r o ⟨rfl,hb⟩;have E2:=aa hb;clear hb V X Y Z ab ad ck;have i:v.size=32:=a2.o;have aj:=gD (P:=prog) o 9 99 5 v underlying9 underlying99 underlying5;have d:=rY.made (w:=o) rfl v (grownCap o 32 0 5) 5;rw[a0.o]at d;have a:Below o.heap.size o ((o.alloc (.cells (bytesRow v (grownCap o 32 0 5)) 5 ((bytesRow v (grownCap o 32 0 5)).size,(bytesRow v (grownCap o 32 0 5)).size+1))).drew):=bA ((aw _ o).alloc (ak _) _) 1;have al:=run_arrayAt (P:=prog) (w:=(o.alloc (.cells (bytesRow v (grownCap o 32 0 5)) 5 ((bytesRow v (grownCap o 32 0 5)).size,(bytesRow v (grownCap o 32 0 5)).size+1))).drew) 22 5 32 (some ⟨o.heap.size,0,none⟩) 32 (grownCap o 32 0 5) underlying22 an;have lb:=(At.pi d).R (m:=32) (by rw[ag,g.o]);have rb:=(At.pi d).row (m:=32) (by rw[ag,g.o]);have hp:=((P1.o.below E2.o P1.o.inside).below a (P1.o.below E2.o P1.o.inside).inside);have e:([j.map (Value.int .u8),zP]:List (List Value)).map List.length= [32,32]:=by simp[zP,av,b.o]
 have lp:=(hp.part 1 32 zP (by rw[e];rfl) rfl).R (m:=32) rfl;have ro:=bY .u8 p 32 g.o;have y:=aa hp;have f:=aa a;have aV:=aa e;clear d hp a e
 go_upto_region 6 with(fail)
 refine aU (λW=>ci [w.heap.size+4] x W/\Lay W (w.heap.size+4) 71 [j.map (Value.int .u8),p.map (Value.int .u8)]/\Below w.heap.size w W) ⟨((G1.o.step (ci.cL E2.o _)).step (ci.cL f.o _)).step (ci.bZ (aG _ _ _ _)),y.o.set 1 32 zP (p.map (Value.int .u8)) (by rw[aV.o];rfl) rfl (by rw[aM,g.o];rfl),((t.o.trans (E2.o.mono t.o.size)).trans (f.o.mono (ap t.o.size E2.o.size))).grown (aG _ _ _ _) (ap t.o.size (ap E2.o.size f.o.size)) (λq hq=>by injection hq with hq;omega)⟩ ?_;intro V2 ⟨k1,L,M⟩;have G2:=aa k1;have P2:=aa L;have aX:=aa M;clear k1 L M aj al lb rb lp ro i y f
 go_wp2_with fail
 rw[dX];have e:([j.map (Value.int .u8),p.map (Value.int .u8)]:List (List Value)).map List.length= [32,32]:=by simp[b.o,g.o]
 have TA:=P2.o.run 0 2 0 ((j++p).map (Value.int .u8)) rfl (by rw[cN];simp);have i:(ai .u8 (j++p)).size=64:=by rw[ag,am,b.o,g.o]
 have l4:=At.R (cs:=ai .u8 (j++p)) TA (m:=64) i;have r4:=At.row (cs:=ai .u8 (j++p)) TA (m:=64) i;have h3:=G2.o.lay P3.o bj;have ax:Whole V2 (w.heap.size+3) 71 #[ao,ao,ao,ao,ao,ao,ao,ao,ao,ao,ao,ao,ao,ao,ao,ao,ao,ao,ao,ao,ao,ao,ao,ao,ao,ao,ao,ao,ao,ao,ao,ao,ao,ao,ao,ao,ao,ao,ao,ao,ao,ao,ao,ao,ao,ao,ao,ao,ao,ao,ao,ao,ao,ao,ao,ao,ao,ao,ao,ao,ao,ao,ao,ao]:=h3;have l3:=(At.j ax).R (m:=64) rfl;have ro:=bY .u8 (j++p) 64 (by rw[am,b.o,g.o]);have H3:=aa ax;have aY:=aa i;obtain⟨RR,az⟩:=aP (ai .u8 (j++p));rw[<-az]at r4 ro aY;have a3:=aa az;clear TA h3 ax i e az
 go_wp2_with fail
 refine ej rfl underlying71 rfl YQ (w.heap.size+3) RR _ rfl rfl H3.o (by rfl) aY.o ⟨by rw[a3.o],?_⟩;exact aX.o.grown (aG _ _ _ _) aX.o.size (λk hk=>by injection hk with hk;omega)
end Go.Proofs.P
