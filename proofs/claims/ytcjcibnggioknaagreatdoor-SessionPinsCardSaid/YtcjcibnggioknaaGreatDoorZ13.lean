/- Lemmas on which SessionPins rests. -/
import Derived.Test.YtcjcibnggioknaaGreatDoorZ10
import Derived.Test.YtcjcibnggioknaaGreatDoorZ11
set_option maxRecDepth 100000
set_option maxHeartbeats 40000000
set_option linter.unusedVariables false
open Go.RowKit Go.Spk
open Go.Proofs.Tryz
namespace Go.Proofs.P
theorem JT{p:PL}{m:P4}(j:uV p m)(w:ay):
 Calls prog 195 #[.agg (ai .u64 (dY p))] w λe k=>e= .returned (.agg (ai .u64 (dY (RE p))))/\Below w.heap.size w k:=by
 obtain⟨a,f,g,b⟩:=p;obtain⟨c,h,i,d⟩:=j;dsimp only at c h i d;have r:=c.len;have s:=h.len;have t:=i.len;have u:=d.len;have x:(a++(f++(g++b))).length=20:=by simp[*]
 have n:Hid (∀W,Calls prog 25 #[.agg (ai .u64 a)] W (Ai (uQ a) W)):=aa (λW=>ot c W);have o:Hid (∀W,Calls prog 25 #[.agg (ai .u64 b)] W (Ai (uQ b) W)):=aa (λW=>ot d W);have y:=(tV c).len;have A:=(tV d).len;unfold dY RE;generalize uQ a=c1 at*;generalize uQ b=c2 at*;simp only[List.append_assoc];clear c h i d;refine TC.enter func195 ntmps195 [] [] (Hp.nil [] w) ?_;refine T.one 0 (TO.J (z:=20) λB=> ?_);refine T.one 1 (TO.J (z:=20) λC=> ?_);refine TC.split 0 [5,5,5,5] [a.map (Value.int .u64),f.map (Value.int .u64),g.map (Value.int .u64),b.map (Value.int .u64)] ?_ (he:=by simp) (hl:=by simp[*]);refine TC.rg [101000] ?_;refine T.qc 2 (v:= .agg (ai .u64 c1)) (λ_ _ W _=>n.o W) ?_;refine T.qc 9 (v:= .agg (ai .u64 c2)) (λ_ _ W _=>o.o W) ?_;refine T.bd 10 [[bO,bO,bO,bO,bO],[bO,bO,bO,bO,bO],[bO,bO,bO,bO,bO],[bO,bO,bO,bO,bO]] (qs:= [c1.map (Value.int .u64),f.map (Value.int .u64),g.map (Value.int .u64),c2.map (Value.int .u64)]) (v:= .agg (ai .u64 (c1++(f++(g++c2))))) ?_ (hv:=by simp[ai]);refine TE.rc ?_;exact λW q=>⟨congrArg (λl=>Ending.returned (.agg (List.toArray l))) (List.append_nil _),q.below⟩
theorem tB{a b:aR}{x y:Nat}(f:Fe a x)(g:Fe b y)(w:ay):
 Calls prog 30 #[.agg (ai .u64 a),.agg (ai .u64 b)] w λe i=>e= .returned (.agg (ai .u64 (dY (AL a b))))/\Below w.heap.size w i:=by
 have m:=f.len;have o:=g.len;have p:=(dy f g).len;have j:=aa (λW=>jK f g W);obtain⟨c,h⟩:=eZ ([((1:Nat):Int),0,0,0,0]);have q:c.length=5:=by rw[h.o];rfl
 rw[show dY (AL a b)=a++(b++(c++mulL a b)) by rw[h.o];unfold dY AL;simp];generalize mulL a b=d at*;clear f g;refine TC.enter func30 ntmps30 [] [] (Hp.nil [] w) ?_;refine T.one 0 (TO.J (z:=5) λr=> ?_);refine T.one 1 (TO.J (z:=5) λs=> ?_);refine T.one 2 (TO.J (z:=20) λt=> ?_);refine TC.rg [102000] ?_;refine T.qc 2 (v:= .agg (ai .u64 c)) (λ_ _ W _=>by rw[h.o];exact ew (n:=1) an W) ?_;refine T.qc 5 (v:= .agg (ai .u64 d)) (λ_ _ W _=>j.o W) ?_;refine T.bd 6 [[bO,bO,bO,bO,bO],[bO,bO,bO,bO,bO],[bO,bO,bO,bO,bO],[bO,bO,bO,bO,bO]] (qs:= [a.map (Value.int .u64),b.map (Value.int .u64),c.map (Value.int .u64),d.map (Value.int .u64)]) (v:= .agg (ai .u64 (a++(b++(c++d))))) ?_ (hv:=by simp[ai]);refine TE.rc ?_;exact λW k=>⟨aA (λl=>Ending.returned (.agg (List.toArray l))) (bP _),k.below⟩
end Go.Proofs.P
namespace Go.Spk
theorem Hm(x:Nat):0<=ix (eE x) 31/\ix (eE x) 31<128:=by
 unfold eE;rw[uv _ _ _ _ _ an];have a:x %2^255<2^255:=fF _ (gR _);have b:x %2^255/2^(8*31)<128:=(Nat.div_lt_iff_lt_mul (gR _)).2 (aL a an);unfold oo;refine⟨af,?_⟩;have c:=Nat.mod_le (x %2^255/2^(8*31)) (2^8);omega
end Go.Spk
namespace Go.Proofs.P
theorem lD{p:PL}{m:P4}(G:uV p m)(w:ay):
 Calls prog 15 #[.agg (ai .u64 (dY p))] w λe H=>e= .returned (.agg (ai .u8 (kp m)))/\Below w.heap.size w H:=by
 obtain⟨r,s,t,E⟩:=p;obtain⟨i,j,o,u⟩:=G;dsimp only at i j o u;have S:=i.len;have U:=j.len;have V:=o.len;have X:=u.len;have Y:(r++(s++(t++E))).length=20:=by simp[*]
 have g:=yd o;have I:=aa (λW=>oH o W);have Z:=g.len;generalize GX t=c1 at*;have x:=dy j g;have y:=dy i g;have J:=aa (λW=>jK j g W);have K:=aa (λW=>jK i g W);have m2:=x.len;have m3:=y.len;generalize mulL s c1=L at*;generalize mulL r c1=M at*;have f:Hid (kp m=if m.1*uN m.2.2.1 %pF %2=1 then(eE (m.2.1*uN m.2.2.1 %pF)).set 31 (ix (eE (m.2.1*uN m.2.2.1 %pF)) 31+128)else eE (m.2.1*uN m.2.2.1 %pF)):=aa rfl;rw[f.o];generalize m.2.1*uN m.2.2.1 %pF=A at*;generalize m.1*uN m.2.2.1 %pF=N at*;have P:=aa (λW=>wB x W);have q:=aa (λW=>sq y W);have B:=Hm A;have C:(eE A).length=32:=dV _ _ _ _;generalize eE A=O at*;rcases List.eq_nil_or_concat O with rfl|⟨c,b,h⟩
 .cases C
 rw[List.concat_eq_append]at h;subst h;have d:c.length=31:=by simp at C;exact C
 have F:ix (c++ [b]) 31=b:=by unfold ix;simp[List.getD,d]
 rw[F]at B⊢;rw[show(c++ [b]).set 31 (b+128)=c++ [b+128] by rw[List.set_append_right _ _ af,d];rfl]
 have Q:bits BinOp.or IntKind.u8 b 128=b+128:=by
  have:∀n:Nat,n<128->bits BinOp.or IntKind.u8 (n:Int) 128=(n:Int)+128:=by decide+kernel
  obtain⟨n,rfl⟩:=Int.eq_ofNat_of_zero_le B.1;exact this n af
 have R:(c++ [b+128]).length=32:=by simp[d]
 clear i j o u g x y f F B
 by_cases a:N %2=1
 all_goals
  first|(rw[if_pos a];simp only[a,decide_true]at q)|(rw[if_neg a];simp only[a,decide_false]at q)
  clear a;unfold dY;simp only[List.append_assoc];refine TC.enter func15 ntmps15 [] [] (Hp.nil [] w) ?_;refine T.one 0 (TO.J (z:=20) λbp=> ?_);refine T.one 1 (TO.J (z:=32) (λbr=> ?_) (hgo:=λ_ k=>k));refine T.fin ?_;refine TE.Ph ?_;refine TC.split 0 [5,5,5,5] [r.map (Value.int .u64),s.map (Value.int .u64),t.map (Value.int .u64),E.map (Value.int .u64)] ?_ (he:=by simp) (hl:=by simp[*]);refine T.one 2 (TO.qk (v:= .agg (ai .u64 c1)) (λW _=>I.o W) ?_);refine T.one 3 (TO.J (z:=5) λbz=> ?_);refine T.one 3 (TO.qk (v:= .agg (ai .u64 L)) (λW _=>J.o W) ?_);refine T.one 4 (TO.qk (v:= .agg (ai .u8 (c++ [b]))) (λW _=>P.o W) ?_);refine T.one 5 (TO.J (z:=32) λbo=> ?_);refine T.one 3 (TO.qk (v:= .agg (ai .u64 M)) (λW _=>K.o W) ?_)
 .refine T.one 4 (TO.qk (λW _=>q.o W) ?_ (hgo:=λk=>k));refine T.fin ?_;refine TE.Ph ?_;refine TC.split 3 [31,1] [c.map (Value.int .u8),[.int .u8 b]] ?_ (he:=by show List.map (Value.int .u8) c++([Value.int .u8 b]++ [])=List.map (Value.int .u8) (c++ [b])++ [];simp) (hl:=by simp[*]);refine T.lk 0 3 32 (.agg (ai .u8 (c++ [b+128]))) ?_ (hv:=by show Value.agg ((List.map (Value.int .u8) c++([Value.int .u8 (b+128)]++ [])).take 32).toArray=_;rw[List.append_nil,List.take_of_length_le (by simp[d])];simp[ai]) (hf:=by show Nat.ble 32 (List.map (Value.int .u8) c++([Value.int .u8 (b+128)]++ [])).length=true;simp[d]);refine TE.rc ?_;exact λW D=>⟨congrArg (λl=>Ending.returned (.agg (List.toArray l))) (List.append_nil _),D.below⟩
 .refine T.one 4 (TO.qk (λW _=>q.o W) ?_);refine TE.rc ?_;exact λW D=>⟨congrArg (λl=>Ending.returned (.agg (List.toArray l))) (List.append_nil _),D.below⟩
attribute [local go_sem ↓] li lm iw iy LJ LL Go.wp_at_zero Go.wp_at_succ
attribute [local go_sem] cr cD
theorem jL{p}{m}(h:uV p m):(prog.info? 52).map (·.size)=some (ai .u64 (dY p)).size:=by rw[ag,cK h];exact XG
theorem GA(w:ay):Calls prog 31 #[] w λe s=>e= .returned (.agg (ai .u64 (dY uo)))/\Below w.heap.size w s:=by
 have s1:=jL BR
 go_enter func31,ntmps31
 go_upto_region 1 with(fail)
 refine aU (λW=>Below w.heap.size w W/\Whole W w.heap.size 52 (ai .u64 (List.replicate 20 0))) ⟨by go_grown,Whole.new bj rfl⟩ ?_;intro t ⟨q,r⟩;have b:=aa q;have c:=aa r;clear q r
 go_wp2_with fail
 refine(ew (n:=1) an t).mono ?_;rintro e u ⟨rfl,a⟩;have d:=aa (b.o.trans (a.mono b.o.size));have f:=aa (c.o.below a c.o.inside);clear a
 go_wp2_with fail
 refine(ew (n:=1) an u).mono ?_;rintro e j ⟨rfl,a⟩;have g:=aa (d.o.trans (a.mono d.o.size));have i:=aa (f.o.below a f.o.inside);clear a
 go_wp2_with (refine cQ rfl 52 (.tmp 0) (.tmp 5) rfl w.heap.size (ai .u64 (dY uo)) rfl rfl 52 _ i.o s1 rfl (fL _ _) ?_)
 have l:=aa (show Whole (j.setRow w.heap.size (ai .u64 (dY uo))) w.heap.size 52 (ai .u64 (dY uo))from Whole.row i.o);have m:=aa (show Below w.heap.size w (j.setRow w.heap.size (ai .u64 (dY uo)))from g.o.grown (bW _ _ _) g.o.size (λk o=>by injection o with o;subst o;exact ak _));generalize j.setRow w.heap.size _=v at*
 go_wp2_with fail
 exact cI (im (fn:=f31) (p:=0) rfl _ _ w.heap.size 52 (ai .u64 (dY uo)) (0,0) _ rfl l.o underlying52 rfl s1) rfl ⟨rfl,m.o⟩
theorem Ex{w}{B g}{f}(h:aae w B g f 256){i}(a:i<256):w.cell? ⟨g,i,none⟩=some (.bool (f i)):=by
 have b:=World.ownsRow.cellAt (w:=w) h i af;rw[b];unfold kf;rw[bi,List.getElem?_range a];simp[a]
theorem yP{cd o cx cy cz ck:aR}{d0:Nat}{c0 m:P4}(hd:Fe cd d0)(ht:Fe o ZQ)(hc:uV (cx,cy,cz,ck) c0)(l:aR)(x:l.length=32)(bk:jr l){p:PL}(hp:uV p m)(gc:Nat)(w:ay)(h:Whole w gc 58 (ai .u64 (cd++o++cx++cy++cz++ck))):
 Calls prog 13 #[.pointer (some ⟨gc,0,none⟩),.agg (ai .u8 l),.agg (ai .u64 (dY p))] w λe w'=>e= .returned (.agg (ai .u64 (dY (wO o l p 256))))/\Below w.heap.size w w':=by
 obtain⟨CR,D⟩:=aP (ai .u64 (cd++o++cx++cy++cz++ck));rw[<-D]at h;have B:=aa (λ(p q:PL) (m n:P4) (hp:uV p m) (hq:uV q n) W (h:Whole W gc 58 CR)=>AC hd ht hc hp hq gc W (D▸h));have HK:=aa x;have BK:=aa bk;have HP:=aa hp;have HC:=aa h;have HT:=aa ht;have E:=aa h.inside;have aj:=aa (cK hp);have F:=aa (λk=>uD ht hp l k);obtain⟨M,hM⟩:∃M:Nat->PL,M=wO o l p:=⟨_,rfl⟩;have aS:=aa (by rw[hM];rfl:M 0=uo);have aV:=aa (by intro k;rw[hM];rfl:∀k,M (k+1)=if rB l (255 -k)then tt o (tt o (M k) (M k)) p else tt o (M k) (M k));rw[show wO o l p 256=M 256 by rw[hM]];rw[<-hM]at F;clear hd hc x bk hp h ht hM D
 go_enter func13,ntmps13
 go_upto_region 1 with(fail)
 refine aU (λW=>Below w.heap.size w W/\Whole W w.heap.size 22 (ai .u8 l)/\Whole W (w.heap.size+1) 52 (ai .u64 (dY p))/\Whole W (w.heap.size+1+1) 52 (ai .u64 (List.replicate 20 0))) ⟨by go_grown,((Whole.new rfl rfl).alloc _).alloc _,(Whole.new bj rfl).alloc _,Whole.new bj rfl⟩ ?_;intro W0 ⟨kB,kK,kP,kR⟩;have G:=aa kB;have H:=aa kK;have I:=aa kP;have J:=aa kR;clear kB kK kP kR
 go_wp2_with fail
 refine(GA W0).mono ?_;rintro e W1 ⟨rfl,b⟩;have r:=aa (G.o.trans (b.mono G.o.size));have K:=aa (H.o.below b H.o.inside);have L:=aa (I.o.below b I.o.inside);have y:=aa (J.o.below b J.o.inside);have s1:=jL BR;clear b
 go_upto_region 2 with(refine cQ rfl 52 (.tmp 7) (.tmp 10) rfl W1.heap.size (ai .u64 (dY uo)) rfl rfl 52 _ (dR _ _) s1 rfl (fL _ _) ?_)
 refine aU (λW=>Below w.heap.size w W/\Whole W w.heap.size 22 (ai .u8 l)/\Whole W (w.heap.size+1) 52 (ai .u64 (dY p))/\Whole W (w.heap.size+1+1) 52 (ai .u64 (List.replicate 20 0))/\Whole W W1.heap.size 52 (ai .u64 (dY uo))) ⟨(r.o.alloc r.o.size _).grown (bW _ _ _) (by simp;exact bu r.o.size) (λk x=>by injection x with x;subst x;exact r.o.size),(K.o.alloc _).only (bW _ _ _) (bE (bD K.o.inside)),(L.o.alloc _).only (bW _ _ _) (bE (bD L.o.inside)),(y.o.alloc _).only (bW _ _ _) (bE (bD y.o.inside)),Whole.row (Whole.new (cs':=_) rfl rfl)⟩ ?_;intro W2 ⟨kB,kK,kP,kR,kO⟩;have s:=aa (show w.heap.size+1+1<W1.heap.size from y.o.inside);clear r K L y s1 G H I J;generalize W1.heap.size=g7 at*;have al:=aa kB;have an:=aa kP;have ao:=aa kR;have N:=aa kO;have l1:=(At.j kK).R (m:=32) (by rw[ag,HK.o]);have r1:=(At.j kK).row (m:=32) (by rw[ag,HK.o]);clear kB kK kP kR kO
 go_wp2_with fail
 refine(IF l HK.o BK.o W2).mono ?_;rintro e W3 ⟨O,rfl,c,b⟩;have P:=aa (al.o.trans (b.mono al.o.size));have aX:=aa (an.o.below b an.o.inside);have aY:=aa (ao.o.below b ao.o.inside);have a0:=aa (N.o.below b N.o.inside);have a1:=aa (HC.o.below P.o E.o);have av:=aa (show g7<O from aL N.o.inside (World.ownsRow.lt (w:=W3) c O (by simp[Value.ownBlock])).1);have ax:=aa (World.ownsRow.lt (w:=W3) c O (by simp[Value.ownBlock])).2;have a2:=aa (λi (hi:i<256)=>Ex c hi);clear b c l1 r1
 go_wp2_with fail
 go_loopw [9] (λi W=> ∃k:Nat,k<=256/\i= .int .i64 (255 -(k:Int))/\eU W3 W g7 52 .u64 (dY (M k))) (λi _=>(intOf i+1).toNat)
 case atStart=>exact⟨0,af,by go_num,by rw[aS.o];exact eU.start a0.o⟩
 case round=>
  obtain⟨k,x,rfl,hu⟩:=hrel;have t:=aa hu;clear hu
  by_cases R:k<256
  .have i0:(0:Int)<=255 -(k:Int):=af;obtain⟨j,hj⟩:∃j:Nat,(255:Int) -k=j:=⟨255 -k,af⟩;have a3:255 -k=j:=af;have a6:(j:Int)<256:=af;have a:=aa (F.o k);have U:=aV.o k;rw[a3]at U;have V:=aa U;have az:=aa R;have HJ:=aa hj;have cb:=(df (t.o.only.block O ax.o (bE (dp av.o)))).trans (a2.o j af);have X:=aa cb;have aB:=t.o.other a1.o (by have:=E.o;have:=s.o;omega);have z:=aa aB;have l1:=(At.j t.o.et).R (m:=20) (by rw[ag,cK a.o]);have r1:=(At.j t.o.et).row (m:=20) (by rw[ag,cK a.o]);rw[hj];clear U x R i0 cb aB hj;generalize M k=A at*;generalize rB l j=bt at*;obtain⟨Q,hQ⟩:=aP (tt o A A);have d:=aa (by rw[hQ];exact we HT.o a.o a.o:uV Q (No (uP l m k) (uP l m k)));rw[<-hQ]at V;have HQ:=aa hQ;clear hQ
   go_wp2_with fail
   refine(B.o A A _ _ a.o a.o wr z.o).mono ?_;rw[<-HQ.o];rintro e W4 ⟨rfl,b⟩;have Y:=eU.mk (aZ t.o.only (bR b _)) (t.o.et.below b t.o.et.inside);have l2:=(At.j Y.et).R (m:=20) (by rw[ag,cK a.o]);have ro:=bY .u64 (dY Q) 20 (cK d.o);have Z:=aa Y;have u:=aa ((b.cell (p:=⟨O,j,none⟩) (aH X.o)).trans X.o);have C:=aa (z.o.below b z.o.inside);clear b Y l1 r1
   go_upto_region 7 with(fail)
   have hg:=aG g7 (ai .u64 (dY Q)).toList 0 W4;refine aU (λW=>eU W3 W g7 52 .u64 (dY Q)/\W.cell? ⟨O,j,none⟩=some (.bool bt)/\Whole W gc 58 CR) ⟨⟨aZ Z.o.only hg,Z.o.et.fill (by rw[ag,ag,cK d.o,cK a.o])⟩,(df (hg.block O (aH u.o) (bE (dp av.o)))).trans u.o,C.o.only hg (bE (by have:=E.o;have:=s.o;omega))⟩ ?_;intro W5 ⟨aC,cb,aE⟩;have g:=aa aC;have a4:=aa aE;clear hg l2 ro aC aE u C Z X z;cases bt with
   |false=>
    have f:M (k+1)=Q:=by rw[V.o];rfl
    have v:=aa f;clear f
    go_wp2_with fail
    go_roundw
    case rel=>exact⟨k+1,by have:=az.o;omega,by have:=HJ.o;go_num,by rw[v.o];exact g.o⟩
    case measure=>simp[intOf]
   |true=>
    have f:M (k+1)=tt o Q p:=by rw[V.o];rfl
    have v:=aa f;have ab:=g.o.other aX.o (dp s.o);have l1:=(At.j g.o.et).R (m:=20) (by rw[ag,cK d.o]);have r1:=(At.j g.o.et).row (m:=20) (by rw[ag,cK d.o]);have l2:=(At.j ab).R (m:=20) (by rw[ag,aj.o]);have r2:=(At.j ab).row (m:=20) (by rw[ag,aj.o]);clear f ab
    go_wp2_with fail
    refine(B.o Q p _ _ d.o HP.o W5 a4.o).mono ?_;rintro e W6 ⟨rfl,b⟩;obtain⟨S,hS⟩:=aP (tt o Q p);have aF:=aa (by rw[hS];exact we HT.o d.o HP.o:uV S _);have ad:=eU.mk (aZ g.o.only (bR b _)) (g.o.et.below b g.o.et.inside);have l3:=(At.j ad.et).R (m:=20) (by rw[ag,cK d.o]);have ro:=bY .u64 (dY S) 20 (cK aF.o);have aK:=aa ad;rw[<-hS];have a5:=aa (by rw[hS];exact v.o:M (k+1)=S);clear b ad l1 r1 l2 r2 hS
    go_wp2_with fail
    go_roundw
    case rel=>exact⟨k+1,by have:=az.o;omega,by have:=HJ.o;go_num,by rw[a5.o];exact⟨aZ aK.o.only (aG g7 (ai .u64 (dY S)).toList 0 W6),aK.o.et.fill (by rw[ag,ag,cK aF.o,cK d.o])⟩⟩
    case measure=>simp[intOf]
  .obtain rfl:k=256:=af;have a:=aa (F.o 256);have hr:=t.o.other aY.o (dp s.o);have l1:=(At.j t.o.et).R (m:=20) (by rw[ag,cK a.o]);have r1:=(At.j t.o.et).row (m:=20) (by rw[ag,cK a.o]);have l2:=(At.j hr).R (m:=20) (by rw[ag];rfl);have ro:=bY .u64 (dY (M 256)) 20 (cK a.o);have HR:=aa hr;have HB:=aa (t.o.below P.o (dp s.o) P.o.size);clear hr x R
   go_wp2_with fail
   refine ej rfl underlying52 rfl XG (w.heap.size+1+1) (ai .u64 (dY (M 256))) _ rfl rfl HR.o (by rw[ag];rfl) (by rw[ag,cK a.o]) ⟨rfl,?_⟩;exact HB.o.grown (aG _ _ _ _) HB.o.size (λq hq=>by injection hq with hq;omega)
end Go.Proofs.P
namespace Go.Proofs.P
theorem uY{a j cx cy cz ck b:aR}{O P Q:Nat}{c0:P4}(m:Fe a O)(B:Fe j P)(d:uV (cx,cy,cz,ck) c0)(o:Fe b Q)(f:Nat)(w:ay)(h:Whole w f 58 (ai .u64 (a++j++cx++cy++cz++ck))):
 Calls prog 29 #[.pointer (some ⟨f,0,none⟩),.agg (ai .u64 b)] w λe p=>e= .returned (.tuple #[.agg (ai .u64 (pA a b).1),.bool (pA a b).2])/\Below w.heap.size w p:=by
 have R:=m.len;have S:=B.len;have C:=d.x.len;have D:=d.y.len;have E:=d.z.len;have F:=d.t.len;have Z:=o.len;dsimp only at C D E F;have G:=aa (show mn a from⟨_,m⟩);have s:=aa (show mn b from⟨_,o⟩);obtain⟨c,A,g,n0⟩:∃c,Hid (c= [((1:Nat):Int),0,0,0,0])/\Hid (mn c)/\c.length=5:=⟨_,aa rfl,aa ⟨_,fD (n:=1) an⟩,rfl⟩;obtain⟨q,H,i,n1⟩:=vJ s s;obtain⟨u,I,J,n2⟩:=VK i g;obtain⟨e,K,L,n3⟩:=vJ G i;obtain⟨v,M,N,n4⟩:=TD L g;have U:Hid (pA a b=nz u v):=aa (by rw[M.out,K.out,I.out,H.out,A.out];rfl);rw[U.o];have V:Hid (∀W,Calls prog 58 #[.agg (ai .u64 u),.agg (ai .u64 v)] W λe p=>e= .returned (.tuple #[.agg (ai .u64 (nz u v).1),.bool (nz u v).2])/\Below W.heap.size W p):=aa (λW=>by obtain⟨_,h⟩:=J.out;obtain⟨_,k⟩:=N.out;exact GJ h k W);have n5:(nz u v).1.length=5:=by obtain⟨_,h⟩:=J.out;obtain⟨_,k⟩:=N.out;exact(IA h k).1.len
 generalize(nz u v).1=r at*;generalize(nz u v).2=z at*;have X:Hp w [] [bl 0 f false (kL 58 [5,5,5,5,5,5]) [a.map (Value.int .u64),j.map (Value.int .u64),cx.map (Value.int .u64),cy.map (Value.int .u64),cz.map (Value.int .u64),ck.map (Value.int .u64)]] w:=(Hp.nil _ _).cons ⟨by show[_,_,_,_,_,_]=_;simp[R,S,C,D,E,F],by show w.heap[f]?=_;rw[show w.heap[f]?=_ from h];simp[ai,bl]⟩ (λ_ e=>e▸h.inside) (λh=>by cases h) (λ_ h=>by cases h);clear m B d o h;refine TC.enter func29 ntmps29 _ _ X ?_;refine T.one 0 (TO.J (z:=5) λb1=> ?_);refine T.one 1 (TO.J (z:=5) λb2=> ?_);refine T.one 1 (TO.qk (v:= .agg (ai .u64 q)) (λW _=>IN s H W) ?_);refine T.one 2 (TO.J (z:=5) λb3=> ?_);refine TC.rg [101000] ?_;refine T.qc 1 (v:= .agg (ai .u64 c)) (λ_ _ W _=>by rw[A.out];exact ew (n:=1) an W) ?_;refine T.qc 2 (v:= .agg (ai .u64 u)) (λ_ _ W _=>FG i g I W) ?_;refine T.qc 8 (v:= .agg (ai .u64 e)) (λ_ _ W _=>qd G i K W) ?_;refine T.qc 9 (v:= .agg (ai .u64 c)) (λ_ _ W _=>by rw[A.out];exact ew (n:=1) an W) ?_;refine T.qc 10 (v:= .agg (ai .u64 v)) (λ_ _ W _=>Cd L g M W) ?_;refine T.qc 11 (v:= .tuple #[.agg (ai .u64 r),.bool z]) (λ_ _ W _=>V.o W) ?_;refine TE.TF ?_;exact λW Y=>⟨congrArg (λl=>Ending.returned (.tuple #[.agg (List.toArray l),.bool z])) (List.append_nil _),Y.below⟩
attribute [local go_sem ↓] li lm LJ LL Go.wp_at_zero Go.wp_at_succ
attribute [local go_sem] cr cD
def qF(w:World)(g:Nat):Prop:= ∃a b c d e f:List Int,Fe a dE/\Fe b ZQ/\uV (c,d,e,f) tx/\Whole w g 58 (ai .u64 (a++b++c++d++e++f))
theorem qF.below{w w'}{g}(h:qF w g)(b:Below w.heap.size w w'):qF w' g:=by
 obtain⟨c,d,e,f,i,j,k,l,m,a⟩:=h;exact⟨c,d,e,f,i,j,k,l,m,a.below b a.inside⟩
theorem qF.inside{w}{g}(h:qF w g):g<w.heap.size:=by
 obtain⟨b,c,d,e,f,i,j,k,l,a⟩:=h;exact a.inside
theorem Xp{d}(a:d.length=5):prog.built 58 [(0,.agg (ai .u64 d))]=some (ai .u64 (d++List.replicate 25 0)):=by
 obtain⟨b,c,e,f,g,rfl⟩:=qa a;show _=_;kernel_rfl
theorem ZZ{w}{g}{T}{pre old post}{new}(h:Whole w g T (ai .u64 (pre++old++post)))(hl:old.length=new.length):Whole (w.setCells g pre.length (ai .u64 new).toList) g T (ai .u64 (pre++new++post)):=by
 have c:Whole w g T ((pre.map (Value.int .u64))++(old.map (Value.int .u64))++(post.map (Value.int .u64))).toArray:=by
  unfold ai at h;rwa[cN,cN]at h
 have a:=c.mid (new.map (Value.int .u64)) (pre.map (Value.int .u64)) (old.map (Value.int .u64)) (post.map (Value.int .u64)) (ek hl);rw[aM]at a;have b:Whole (w.setCells g pre.length (ai .u64 new).toList) g T ((pre.map (Value.int .u64))++(new.map (Value.int .u64))++(post.map (Value.int .u64))).toArray:=a;unfold ai at b⊢;rwa[<-cN,<-cN]at b
theorem ww(w:ay):Calls prog 12 #[] w λe w'=> ∃g,e= .returned (.pointer (some ⟨g,0,none⟩))/\w.heap.size<=g/\qF w' g/\Below w.heap.size w w':=by
 obtain⟨D,E⟩:=aP ([((121665:Nat):Int),0,0,0,0]);obtain⟨F,G⟩:=aP (bU (mY [0,0,0,0,0] D));obtain⟨H,I⟩:=aP ([((121666:Nat):Int),0,0,0,0]);obtain⟨J,K⟩:=aP (GX H);obtain⟨d,L⟩:=aP (mulL F J);obtain⟨o,M⟩:=aP (bU (o8 d d));obtain⟨N,O⟩:=aP ([((4:Nat):Int),0,0,0,0]);obtain⟨P,Q⟩:=aP ([((5:Nat):Int),0,0,0,0]);obtain⟨R,S⟩:=aP (GX P);obtain⟨y,f⟩:=aP (mulL N R);obtain⟨x,j⟩:=aP ((pA d y).1);obtain⟨xb,r⟩:=aP ((pA d y).2);obtain⟨⟨s,t,u,A⟩,l⟩:∃z,z=AL x y:=⟨_,rfl⟩;have F1:=aa (by rw[E];exact fD an:Fe D 121665);have F2:=aa (by rw[G];exact tV F1.o:Fe F ((0+(pF -121665)) %pF));have F3:=aa (by rw[I];exact fD an:Fe H 121666);have F4:=aa (by rw[K];exact yd F3.o:Fe J (uN 121666));have c:=aa (by rw[L];exact dy F2.o F4.o:Fe d dE);have U:=aa (by rw[M];exact tu c.o c.o:Fe o ZQ);have F7:=aa (by rw[O];exact fD an:Fe N 4);have F8:=aa (by rw[Q];exact fD an:Fe P 5);have F9:=aa (by rw[S];exact yd F8.o:Fe R (uN 5));have a:=aa (by rw[f];exact dy F7.o F9.o:Fe y yE);have m:=aa (by rw[j];exact(CZ c.o a.o).1:Fe x (ur yE).1);have B:=aa (by rw[l];exact EU m.o a.o:uV (s,t,u,A) tx);have H1:=aa E;have H2:=aa G;have H3:=aa I;have H4:=aa K;have H5:=aa L;have H6:=aa M;have H7:=aa O;have H8:=aa Q;have H9:=aa S;have V:=aa f;have X:=aa j;have Y:=aa r;have Z:=aa l;clear E G I K L M O Q S f j r l;have n1:=c.o.len;have n2:=U.o.len;have n3:=a.o.len;have n4:=m.o.len;have n5:(dY (s,t,u,A)).length=20:=cK B.o;refine TC.enter func12 ntmps12 [] [] (Hp.nil [] w) ?_;refine T.one 0 (TO.qk (v:= .agg (ai .u64 D)) (λW _=>by rw[H1.o];exact ew (n:=121665) an W) ?_);refine T.one 1 (TO.qk (v:= .agg (ai .u64 F)) (λW _=>by rw[H2.o];exact ot F1.o W) ?_);refine T.one 2 (TO.qk (v:= .agg (ai .u64 H)) (λW _=>by rw[H3.o];exact ew (n:=121666) an W) ?_);refine T.one 3 (TO.qk (v:= .agg (ai .u64 J)) (λW _=>by rw[H4.o];exact oH F3.o W) ?_);refine T.one 4 (TO.qk (v:= .agg (ai .u64 d)) (λW _=>by rw[H5.o];exact jK F2.o F4.o W) ?_);refine T.bd 5 [[Value.int .u64 0,Value.int .u64 0,Value.int .u64 0,Value.int .u64 0,Value.int .u64 0],[Value.int .u64 0,Value.int .u64 0,Value.int .u64 0,Value.int .u64 0,Value.int .u64 0],[Value.int .u64 0,Value.int .u64 0,Value.int .u64 0,Value.int .u64 0,Value.int .u64 0,Value.int .u64 0,Value.int .u64 0,Value.int .u64 0,Value.int .u64 0,Value.int .u64 0,Value.int .u64 0,Value.int .u64 0,Value.int .u64 0,Value.int .u64 0,Value.int .u64 0,Value.int .u64 0,Value.int .u64 0,Value.int .u64 0,Value.int .u64 0,Value.int .u64 0]] (qs:= [d.map (Value.int .u64),[Value.int .u64 0,Value.int .u64 0,Value.int .u64 0,Value.int .u64 0,Value.int .u64 0],[Value.int .u64 0,Value.int .u64 0,Value.int .u64 0,Value.int .u64 0,Value.int .u64 0,Value.int .u64 0,Value.int .u64 0,Value.int .u64 0,Value.int .u64 0,Value.int .u64 0,Value.int .u64 0,Value.int .u64 0,Value.int .u64 0,Value.int .u64 0,Value.int .u64 0,Value.int .u64 0,Value.int .u64 0,Value.int .u64 0,Value.int .u64 0,Value.int .u64 0]]) (v:= .agg (d.map (Value.int .u64)++([Value.int .u64 0,Value.int .u64 0,Value.int .u64 0,Value.int .u64 0,Value.int .u64 0]++ [Value.int .u64 0,Value.int .u64 0,Value.int .u64 0,Value.int .u64 0,Value.int .u64 0,Value.int .u64 0,Value.int .u64 0,Value.int .u64 0,Value.int .u64 0,Value.int .u64 0,Value.int .u64 0,Value.int .u64 0,Value.int .u64 0,Value.int .u64 0,Value.int .u64 0,Value.int .u64 0,Value.int .u64 0,Value.int .u64 0,Value.int .u64 0,Value.int .u64 0])).toArray) ?_ (hv:=by simp);refine T.one 6 (TO.J (z:=30) (hz:=by simp[n1]) (hgo:=λ_ k=>k) λg=> ?_);refine T.q _ ?_;refine T.fin ?_;refine TE.Ph ?_;refine TC.split 0 [5,5,20] [d.map (Value.int .u64),[Value.int .u64 0,Value.int .u64 0,Value.int .u64 0,Value.int .u64 0,Value.int .u64 0],[Value.int .u64 0,Value.int .u64 0,Value.int .u64 0,Value.int .u64 0,Value.int .u64 0,Value.int .u64 0,Value.int .u64 0,Value.int .u64 0,Value.int .u64 0,Value.int .u64 0,Value.int .u64 0,Value.int .u64 0,Value.int .u64 0,Value.int .u64 0,Value.int .u64 0,Value.int .u64 0,Value.int .u64 0,Value.int .u64 0,Value.int .u64 0,Value.int .u64 0]] ?_ (he:=by simp) (hl:=by simp[n1]);refine TC.rg [106001] ?_;refine T.qc 9 (v:= .agg (ai .u64 o)) (λ_ _ W _=>by rw[H6.o];exact AG c.o c.o W) ?_;refine T.one 0 (TO.qk (v:= .agg (ai .u64 N)) (λW _=>by rw[H7.o];exact ew (n:=4) an W) ?_);refine T.one 1 (TO.qk (v:= .agg (ai .u64 P)) (λW _=>by rw[H8.o];exact ew (n:=5) an W) ?_);refine T.one 2 (TO.qk (v:= .agg (ai .u64 R)) (λW _=>by rw[H9.o];exact oH F8.o W) ?_);refine T.one 3 (TO.qk (v:= .agg (ai .u64 y)) (λW _=>by rw[V.o];exact jK F7.o F9.o W) ?_);refine T.one 4 (TO.J (z:=5) λb=> ?_)
 refine T.one 2 (TO.qk (v:= .tuple #[.agg (ai .u64 x),.bool xb]) (λW C=>by
  rw[X.o,Y.o];refine uY (cx:= [0,0,0,0,0]) (cy:= [0,0,0,0,0]) (cz:= [0,0,0,0,0]) (ck:= [0,0,0,0,0]) (c0:=(0,0,0,0)) c.o U.o ⟨nJ,nJ,nJ,nJ⟩ a.o g W ?_;have h:Whole W g 58 (d.map (Value.int .u64)++(o.map (Value.int .u64)++([Value.int .u64 0,Value.int .u64 0,Value.int .u64 0,Value.int .u64 0,Value.int .u64 0,Value.int .u64 0,Value.int .u64 0,Value.int .u64 0,Value.int .u64 0,Value.int .u64 0,Value.int .u64 0,Value.int .u64 0,Value.int .u64 0,Value.int .u64 0,Value.int .u64 0,Value.int .u64 0,Value.int .u64 0,Value.int .u64 0,Value.int .u64 0,Value.int .u64 0]++ []))).toArray:=C.lay (ah (i:=0) rfl);simpa[ai]using h) ?_)
 refine T.one 6 (TO.J (z:=5) λb'=> ?_);refine T.one 3 (TO.qk (v:= .agg (ai .u64 (dY (s,t,u,A)))) (λW _=>by rw[Z.o];exact tB m.o a.o W) ?_);refine TE.rv λW C=>⟨g,rfl,C.ge (p:=0) rfl,⟨d,o,s,t,u,A,c.o,U.o,B.o,?_⟩,C.below⟩;have h:Whole W g 58 (d.map (Value.int .u64)++(o.map (Value.int .u64)++((dY (s,t,u,A)).map (Value.int .u64)++ []))).toArray:=C.lay (ah (i:=0) rfl);simpa[ai,dY]using h
end Go.Proofs.P
namespace Go.Spk
theorem TQ(b:Nat)(h:b<256):bits BinOp.andNot IntKind.u8 (b:Int) 7=(b:Int) -(b:Int) %8:=by
 have a:=u8_andNot_nat b 7 h an;rw[show((7:Nat):Int)=7 from rfl]at a;rw[a];have d:∀b:Fin 256,b.val&&&(255 -7)=b.val -b.val %8:=by decide+kernel
 have c:=d ⟨b,h⟩;simp only[]at c;rw[c];omega
theorem Nr(b:Nat)(h:b<256):bits BinOp.or IntKind.u8 (bits BinOp.and IntKind.u8 (b:Int) 63) 64=(b:Int) %64+64:=by
 have a:=u8_and_nat b 63 h an;rw[show((63:Nat):Int)=63 from rfl]at a;rw[a];have f:∀b:Fin 256,b.val&&&63=b.val %64:=by decide+kernel
 have c:=f ⟨b,h⟩;simp only[]at c;rw[c];have d:=u8_or_nat (b %64) 64 af an;rw[show((64:Nat):Int)=64 from rfl]at d;rw[d];have g:∀b:Fin 64,b.val|||64=b.val+64:=by decide+kernel
 have e:=g ⟨b %64,fF _ an⟩;simp only[]at e;rw[e];omega
theorem rN(s:aR):(pu s).1.length=32:=by
 unfold pu;simp[eG,jp]
theorem Cz(s:aR):∀z∈(pu s).1,0<=z/\z<=255:=by
 have b:=kY true s;have c:∀i,0<=ix (mj true s) i/\ix (mj true s) i<=255:=rH b;intro z a;unfold pu at a;dsimp only at a;rcases List.mem_or_eq_of_mem_set a with h|rfl
 .rcases List.mem_or_eq_of_mem_set h with h|rfl
  .exact b z (List.mem_of_mem_take h)
  .have:=c 0;omega
 .have:=c 31;omega
def Wq(s:List Int):Array Value:=ai .u8 (pu s).1++ #[.string (strOfNums (pu s).2)]
end Go.Spk
namespace Go.Proofs.P
theorem Ny{a}(b:a.length=32)(s:bB):prog.built 55 [(0,.agg (ai .u8 a)),(1,.string s)]=some (ai .u8 a++ #[.string s]):=
 match a,b with
 | [z,A,B,C,D,E,F,G,H,I,c,d,e,f,g,h,i,j,k,l,m,n,o,p,q,r,t,u,v,w,x,y],_=>by show _=_;kernel_rfl
theorem UZ{a}(b:a.length=32)(s:bB):(prog.info? 55).map (·.size)=some (ai .u8 a++ #[Value.string s]).size:=by
 rw[Array.size_append,ag,b];kernel_rfl
theorem Wr(a:aR)(s:bB):(ai .u8 a++ #[Value.string s]).all (·.oneCell')=true:=by
 rw[Array.all_append,fL];simp[Value.oneCell']
attribute [local go_sem ↓] iw iy Ag Ah
attribute [local go_sem] cr cD
theorem Cj(v:cH)(l:eL)(w:ay)(h:ee w v l)(hl:l.length<=1000000)(D:(gI l).length<=10000000)(r:dt w)(hf:dJ w)(E:jS w):
 Calls prog 188 #[v] w λe K=>e= .returned (.agg (ai .u8 (xd (gI l))))/\Below w.heap.size w K:=by
 obtain⟨S,d⟩:=aP (mj true (gI l));obtain⟨R,s⟩:=aP (xd (gI l));have a:=aa (by rw[d];exact eG _ _:S.length=64);have f:=aa (by rw[d];exact kY _ _:∀z∈S,0<=z/\z<=255);have g:=aa (by rw[s];exact fP _ _:R.length=32);have u:=aa (by rw[cJ f.o,bL (by rw[a.o];decide),s,d];rfl:oT 32 (q7 ((bI (strOfNums S)).take 64) %lS)=R);have x:=aa (λW (h:ee W v l) (r:dt W) (hf:dJ W)=>d▸xm v l W h hl D r hf);have L:=aa h;have M:=aa r;have N:=aa hf;have O:=aa E;rw[<-s];clear h hl D r hf E d s
 go_enter func188,ntmps188
 go_upto_region 1 with(fail)
 refine aU (λW=>Below w.heap.size w W/\Whole W w.heap.size 22 (ai .u8 (List.replicate 32 0))) ⟨by go_grown,Whole.new bj rfl⟩ ?_;intro Q ⟨i,j⟩;have n:=aa i;have F:=aa j;clear i j
 go_wp2_with fail
 refine(x.o Q (L.o.below n.o (ak _)) (M.o.below n.o) (N.o.below n.o)).mono ?_;rintro e y ⟨rfl,b⟩;have t:=aa (n.o.trans (b.mono n.o.size));have G:=aa (F.o.below b F.o.inside);have s1:(prog.info? 97).map (·.size)=some (ai .u8 S).size:=by rw[ag,a.o];exact yc
 clear b
 go_upto_region 2 with(refine cQ rfl 97 (.tmp 3) (.tmp 5) rfl y.heap.size (ai .u8 S) rfl rfl 97 _ (dR _ _) s1 (by rw[ag,a.o];rfl) (fL _ _) ?_)
 refine aU (λW=>Below w.heap.size w W/\Whole W w.heap.size 22 (ai .u8 (List.replicate 32 0))/\Whole W y.heap.size 97 (ai .u8 S)) ⟨(t.o.alloc t.o.size _).grown (bW _ _ _) (by simp;exact bu t.o.size) (λk c=>by injection c with c;subst c;exact t.o.size),(G.o.alloc _).only (bW _ _ _) (bE (bD G.o.inside)),Whole.row (Whole.new (cs':=_) rfl rfl)⟩ ?_;intro A ⟨i,j,H⟩;have B:=aa i;have I:=aa j;have o:=bv (P:=prog) A 99 5 underlying99 underlying5 y.heap.size 0 64 64 S a.o (ey A _ _ S 64 H a.o) 9 underlying9;have p:(strOfNums S).size<=1000000000:=by rw[<-aj,cJ f.o,a.o];decide
 have q:=aa (vk (strOfNums S) p A (O.o.below B.o));rw[u.o]at q;clear i j H s1 p
 go_wp2_with fail
 refine q.o.mono ?_;rintro e V ⟨rfl,b⟩;have J:=aa (B.o.trans (b.mono B.o.size));have C:=I.o.below b I.o.inside;have X:=(At.j C).R (m:=32) (by rw[ag];rfl);have Y:=bY .u8 R 32 g.o;have U:=aa C;clear b C o
 go_wp2_with fail
 refine ej rfl underlying22 rfl gE w.heap.size (ai .u8 R) _ rfl rfl U.o (by rw[ag];rfl) (by rw[ag,g.o]) ⟨rfl,?_⟩;exact J.o.grown (aG _ _ _ _) J.o.size (λk c=>by injection c with c;omega)
theorem yQ(sd:aR)(hl:sd.length=32)(F:jr sd)(w:ay)(hw:dt w)(hf:dJ w):
 Calls prog 14 #[.agg (ai .u8 sd)] w λe w'=>e= .returned (.agg (Wq sd))/\Below w.heap.size w w':=by
 have hm:=cY F;obtain⟨S,V⟩:=aP (mj true sd);have G:=aa (by rw[V];exact eG _ _:S.length=64);have az:=aa (by rw[V];exact kY _ _:∀z∈S,0<=z/\z<=255);have X:=aa (by rw[V];rfl:Wq sd=ai .u8 (((S.take 32).set 0 (ix S 0 -ix S 0 %8)).set 31 (ix S 31 %64+64))++ #[.string (strOfNums (S.drop 32))]);have Y:=aa (λv W (h:ee W v [strOfNums sd]) (hw:dt W) (hf:dJ W)=>(by rw[V];unfold gI;rw[mS,List.flatMap_nil,bP,cJ hm]:mj true (gI [strOfNums sd])=S)▸xm v [strOfNums sd] W h bj (by unfold gI;rw[mS,List.flatMap_nil,bP,cJ hm,hl];decide) hw hf);have HW:=aa hw;have HF:=aa hf;have HL:=aa hl;rw[X.o];obtain⟨A,hA⟩:=aP (S.take 32);obtain⟨T,hT⟩:=aP (S.drop 32);have y:A++T=S:=by rw[hA,hT,cR]
 have a:=aa (by rw[hA,aO,G.o];rfl:A.length=32);have Z:=aa (by rw[hT,bK,G.o]:T.length=32);have ab:ix S 0=ix A 0:=by rw[<-y,jk _ _ _ (by rw[a.o];decide)]
 have L:ix S 31=ix A 31:=by rw[<-y,jk _ _ _ (by rw[a.o];decide)]
 have B:∀i,0<=ix A i/\ix A i<=255:=rH λz hz=>az.o z (by rw[<-y];exact hJ _ hz);rw[<-hA,<-hT,ab,L];have ad:=aa y;obtain⟨M,H⟩:=au (B 0).1;obtain⟨R,I⟩:=au (B 31).1;have aj:=(B 0).2;have ao:=(B 31).2;rw[H]at aj;rw[I]at ao;rw[H,I];have aB:=aa H;have a2:=TQ M af;have a1:=Nr R af;obtain⟨A1,c⟩:=aP (A.set 0 ((M:Int) -(M:Int) %8));have N:=aa (by rw[c,dx];exact a.o:A1.length=32);have aC:=aa (by rw[c,lW _ _ _ _ (by rw[a.o];decide),aq an];exact I:ix A1 31=R);rw[<-c];have aE:=aa c;obtain⟨u,d⟩:=aP (A1.set 31 ((R:Int) %64+64));have j:=aa (by rw[d,dx];exact N.o:u.length=32);rw[<-d];have aF:=aa d;obtain⟨C,O⟩:=aP (strOfNums T);have aG:=aa O;rw[<-O];clear hl F hw hf V hm X hA hT y ab L B H I c d O aj ao
 go_enter func14,ntmps14
 go_upto_region 1 with(fail)
 refine aU (λW=>Below w.heap.size w W/\Whole W w.heap.size 22 (ai .u8 sd)/\Whole W (w.heap.size+1) 55 (ai .u8 (List.replicate 32 0)++ #[.string ⟨#[]⟩])) ⟨by go_grown,(Whole.new rfl rfl).alloc _,Whole.new bj rfl⟩ ?_;intro W0 ⟨n,f,r⟩;have B0:=aa n;have R0:=aa r;have s:=bv (P:=prog) W0 99 5 underlying99 underlying5 w.heap.size 0 32 32 sd HL.o (ey W0 _ _ sd 32 f HL.o) 9 underlying9;clear n f r;obtain⟨ss,av⟩:=aP (strOfNums sd);rw[<-av]at s Y;clear av
 go_wp2_with fail
 have ax:ee (W0.alloc (.cells #[.string ss] 9)) (.slice (some ⟨W0.heap.size,0,none⟩) 1 1) [ss]:=ee.j (l:= [ss]) (Whole.made W0 9 _);have D:=B0.o.alloc B0.o.size (.cells #[.string ss] 9);refine(Y.o _ _ ax (HW.o.below D) (HF.o.below D)).mono ?_;rintro e W1 ⟨rfl,F⟩;have B1:=aa (D.trans (F.mono D.size));have R1:=aa ((R0.o.alloc (.cells #[.string ss] 9)).below F (R0.o.alloc _).inside);have s1:(prog.info? 97).map (·.size)=some (ai .u8 S).size:=by rw[ag,G.o];exact yc
 clear F ax D s
 go_upto_region 2 with(refine cQ rfl 97 (.tmp 3) (.tmp 8) rfl W1.heap.size (ai .u8 S) rfl rfl 97 _ (dR _ _) s1 (by rw[ag,G.o];rfl) (fL _ _) ?_)
 refine aU (λW=>Below w.heap.size w W/\Whole W (w.heap.size+1) 55 (ai .u8 (List.replicate 32 0)++ #[.string ⟨#[]⟩])/\Whole W W1.heap.size 97 (ai .u8 S)) ⟨(B1.o.alloc B1.o.size _).grown (bW _ _ _) (by simp;exact bu B1.o.size) (λk b=>by injection b with b;subst b;exact B1.o.size),(R1.o.alloc _).only (bW _ _ _) (bE (bD R1.o.inside)),Whole.row (Whole.new (cs':=_) rfl rfl)⟩ ?_;intro U ⟨n,r,f⟩;have J:=aa (show w.heap.size+1<W1.heap.size from R1.o.inside);clear B0 R0 B1 R1 s1;generalize W1.heap.size=E at*;have B2:=aa n;have R2:=aa r;have S2:=aa f;have Q:Whole U E 97 (ai .u8 ([]++A++T)):=by rw[eo,ad.o];exact f
 have l1:=(At.field (o:=0) (pre:= []) (ws:=A) (post:=T) Q rfl).R (m:=32) (by rw[ag,a.o]);have r1:=(At.field (o:=0) (pre:= []) (ws:=A) (post:=T) Q rfl).row (m:=32) (by rw[ag,a.o]);have aK:=run_arrayAt (P:=prog) (w:=U) 22 5 32 (some ⟨E,0,none⟩) 32 64 underlying22 an;have s1:(prog.info? 22).map (·.size)=some (ai .u8 A).size:=by rw[ag,a.o];exact gE
 clear n r f Q
 go_upto_region 3 with(refine cQ rfl 22 (.tmp 4) (.tmp 11) rfl U.heap.size (ai .u8 A) rfl rfl 22 _ (dR _ _) s1 (by rw[ag,a.o];rfl) (fL _ _) ?_)
 refine aU (λW=>Below w.heap.size w W/\Whole W (w.heap.size+1) 55 (ai .u8 (List.replicate 32 0)++ #[.string ⟨#[]⟩])/\Whole W E 97 (ai .u8 S)/\Whole W U.heap.size 22 (ai .u8 A)) ⟨(B2.o.alloc B2.o.size _).grown (bW _ _ _) (by simp;exact bu B2.o.size) (λk b=>by injection b with b;subst b;exact B2.o.size),(R2.o.alloc _).only (bW _ _ _) (bE (bD R2.o.inside)),(S2.o.alloc _).only (bW _ _ _) (bE (bD S2.o.inside)),Whole.row (Whole.new (cs':=_) rfl rfl)⟩ ?_;intro W3 ⟨n,r,f,x⟩;have t:=aa (show E<U.heap.size from S2.o.inside);clear l1 r1 aK s1 B2 R2 S2;generalize U.heap.size=g at*;have B3:=aa n;have R3:=aa r;have S3:=aa f;have A3:=aa x;have c0:W3.cell? ⟨g,0,none⟩=some (.int .u8 (M:Int)):=by rw[<-aB.o];exact x.int 0 (by rw[a.o];decide)
 have f0:=x.free 0;clear n r f x
 go_upto_region 4 with(fail)
 have c:=aE.o
 have A4:=aa (show Whole (W3.setCell ⟨g,0,none⟩ (.int .u8 ((M:Int) -(M:Int) %8))) g 22 (ai .u8 A1) by
  have h:=A3.o.stored 0 (.int .u8 ((M:Int) -(M:Int) %8));rwa[ue,<-c]at h)
 clear c;refine aU (λW=>Below w.heap.size w W/\Whole W (w.heap.size+1) 55 (ai .u8 (List.replicate 32 0)++ #[.string ⟨#[]⟩])/\Whole W E 97 (ai .u8 S)/\Whole W g 22 (ai .u8 A1)) ⟨B3.o.grown (aY _ rfl _) B3.o.size (λk b=>by injection b with b;have h:=J.o;have h2:=t.o;have e:g=k:=b;omega),R3.o.uw _ (by have h:=J.o;have h2:=t.o;show¬g=w.heap.size+1;omega) _,S3.o.uw _ (by have h2:=t.o;show¬g=E;omega) _,A4.o⟩ ?_;intro W4 ⟨n,r,f,x⟩;clear A4 c0 f0 B3 R3 S3 A3;have B4:=aa n;have R4:=aa r;have S4:=aa f;have A4:=aa x;have aS:W4.cell? ⟨g,31,none⟩=some (.int .u8 (R:Int)):=by rw[<-aC.o];exact x.int 31 (by rw[N.o];decide)
 have aV:=x.free 31;clear n r f x
 go_upto_region 5 with(fail)
 have d:=aF.o
 have A5:=aa (show Whole (W4.setCell ⟨g,31,none⟩ (.int .u8 ((R:Int) %64+64))) g 22 (ai .u8 u) by
  have h:=A4.o.stored 31 (.int .u8 ((R:Int) %64+64));rwa[ue,<-d]at h)
 clear d;refine aU (λW=>Below w.heap.size w W/\Whole W (w.heap.size+1) 55 (ai .u8 (List.replicate 32 0)++ #[.string ⟨#[]⟩])/\Whole W E 97 (ai .u8 S)/\Whole W g 22 (ai .u8 u)) ⟨B4.o.grown (aY _ rfl _) B4.o.size (λk b=>by injection b with b;have h:=J.o;have h2:=t.o;have e:g=k:=b;omega),R4.o.uw _ (by have h:=J.o;have h2:=t.o;show¬g=w.heap.size+1;omega) _,S4.o.uw _ (by have h2:=t.o;show¬g=E;omega) _,A5.o⟩ ?_;intro W5 ⟨n,r,f,x⟩;clear A5 aS aV B4 R4 S4 A4;have B5:=aa n;have R5:=aa r;have A5:=aa x;have S5:=aa (by rw[bP,ad.o];exact f:Whole W5 E 97 (ai .u8 (A++T++ [])));clear n r f x;refine mp 3 (λW=>Below W5.heap.size W5 W) al al (bA (aw _ _) 1) ?_;refine e9 (λK hK=> ?_);refine jo al 22 (.tmp 4) rfl (g) 0 rfl (ai .u8 u) _ (λW hW=>(At.below (At.j A5.o) hW A5.o.inside)) underlying22 rfl (by rw[ag];exact gE.trans (aA some j.o.symm)) ?_;go_simp;refine hK _ ?_;clear hK K;refine mD (.slice (some ⟨E,32,none⟩) 32 32) ?_;refine xO (.string C) (λW hW=>aD ?_) ?_
 .have s:=bv (P:=prog) W 99 5 underlying99 underlying5 E 32 32 32 T Z.o (λq hq=>by have h:=(At.field (o:=32) (pre:=A) (ws:=T) (post:= []) (S5.o.below hW S5.o.inside) a.o).1 q (.int .u8 (ix T q)) (by rw[Array.getElem?_toList];exact iP .u8 T q (by rw[Z.o];exact hq));exact h) 9 underlying9;rw[<-aG.o]at s;go_simp
 refine q5 ?_;intro W6 F;have B6:=aa (B5.o.trans (F.mono B5.o.size));have R6:=aa (R5.o.below F R5.o.inside);have aX:=aa (Ny j.o C);have s1:=UZ j.o C;have s2:(ai .u8 (List.replicate 32 0)++ #[Value.string ⟨#[]⟩]).size=(ai .u8 u++ #[Value.string C]).size:=by rw[Array.size_append,Array.size_append,ag,ag,j.o];rfl
 clear F;simp only[List.drop_succ_cons,List.drop_zero]
 go_wp2_with (first
  |(refine sO (ai .u8 u++ #[Value.string C]) rfl 55 _ rfl (Eq.trans (aA (Program.built prog 55) (show _= [(0,Value.agg (ai .u8 u)),(1,Value.string C)]from by kernel_rfl)) aX.o) ?_)
  |(refine cQ rfl 55 (.tmp 2) (.tmp 24) rfl (w.heap.size+1) (ai .u8 u++ #[Value.string C]) rfl rfl 55 _ R6.o s1 s2 (Wr _ _) ?_))
 have aZ:=aa (show Whole (W6.setRow (w.heap.size+1) (ai .u8 u++ #[Value.string C])) (w.heap.size+1) 55 (ai .u8 u++ #[Value.string C])from Whole.row R6.o);have a0:=aa (show Below w.heap.size w (W6.setRow (w.heap.size+1) (ai .u8 u++ #[Value.string C]))from B6.o.grown (bW _ _ _) B6.o.size (λk b=>by injection b with b;omega));generalize W6.setRow (w.heap.size+1) _=W7 at*
 go_wp2_with fail
 exact cI (im (fn:=f14) (p:=2) rfl _ _ (w.heap.size+1) 55 (ai .u8 u++ #[Value.string C]) (0,0) _ rfl aZ.o underlying55 rfl s1) rfl ⟨rfl,a0.o⟩
end Go.Proofs.P
namespace Go.Spk
theorem wS(s:aR):jr (pu s).1:=rH (Cz s)
theorem iW(p:P4):(kp p).length=32:=by
 obtain⟨x,y,z,t⟩:=p;unfold kp;dsimp only
 split
 .rw[List.length_set];exact dV _ _ _ _
 .exact dV _ _ _ _
theorem oV(x:Nat):∀z∈eE x,0<=z/\z<=255:=by
 intro z a;unfold eE sj at a;obtain⟨j,_,rfl⟩:=fZ.1 a;have h:oo x 255 8 j<2^8:=by unfold oo;exact fF _ an
 omega
theorem sg(p:P4):∀z∈kp p,0<=z/\z<=255:=by
 obtain⟨x,y,z,t⟩:=p;intro v a;unfold kp at a;dsimp only at a
 split at a
 .rcases List.mem_or_eq_of_mem_set a with h|rfl
  .exact oV _ v h
  .have:=Hm (y*uN z %pF);omega
 .exact oV _ v a
theorem mN(s:aR):(lX s).length=32:=iW _
theorem A6(s:aR):∀z∈lX s,0<=z/\z<=255:=sg _
end Go.Spk
namespace Go.Proofs.P
theorem NY{a}(s:bB)(b:a.length=32)(W:ay):(Instr.field 55 (.agg (ai .u8 a++ #[.string s])) 0).run prog W= .ok (.agg (ai .u8 a)) W:=
 match a,b with
 | [z,A,B,C,D,E,F,G,H,I,c,d,e,f,g,h,i,j,k,l,m,n,o,p,q,r,t,u,v,w,x,y],_=>by show _=_;kernel_rfl
theorem Fu{o}{ev}{x}{a}{s}{b}(c:b=ai .u8 a++ #[Value.string s])(d:o.op= .field 55 x 0)(e:ev x= .agg b)(f:a.length=32)(W:ay):
 (execOp ev o).run prog W= .ok (.value (.agg (ai .u8 a))) W:=by
 have h:(Instr.field 55 (.agg b) 0).run prog W= .ok (.agg (ai .u8 a)) W:=by rw[c];exact NY s f W
 unfold execOp;simp only[d];simp[e,h]
theorem JN{w}{g}{T}{a b cx cy cz ck}(h:Whole w g T (ai .u64 (a++b++cx++cy++cz++ck))):Whole w g T (ai .u64 ((a++b)++dY (cx,cy,cz,ck)++ [])):=by
 have e:(a++b)++dY (cx,cy,cz,ck)++ []=a++b++cx++cy++cz++ck:=by unfold dY;simp
 rw[e];exact h
attribute [local go_sem ↓] iw iy Ag Ah
attribute [local go_sem] cr cD
theorem sm(sd:aR)(hl:sd.length=32)(a:jr sd)(w:ay)(r:dt w)(hf:dJ w):
 Calls prog 5 #[.agg (ai .u8 sd)] w λe w'=>e= .returned (.agg (ai .u8 (lX sd)))/\Below w.heap.size w w':=by
 obtain⟨A,i⟩:=aP ((pu sd).1);obtain⟨st,j⟩:=aP (strOfNums (pu sd).2);have l:=aa (by rw[i];exact rN sd:A.length=32);have B:=aa (by rw[i];exact wS sd:jr A);obtain⟨Q,d⟩:=aP (Wq sd);have C:=aa (by rw[d,i,j];rfl:Q=ai .u8 A++ #[Value.string st]);have n:=aa (λW (r:dt W) (hf:dJ W)=>yQ sd hl a W r hf);rw[<-d]at n;obtain⟨R,s⟩:=aP (lX sd);have D:=aa (by rw[s,i];rfl:kp (uP A tx 256)=R);have p:=aa (by rw[s];exact mN sd:R.length=32);rw[<-s];have HL:=aa hl;have HW:=aa r;have HF:=aa hf;clear i j s hl a r hf d
 go_enter func5,ntmps5
 go_upto_region 1 with(fail)
 refine aU (λW=>Below w.heap.size w W/\Whole W w.heap.size 22 (ai .u8 sd)/\Whole W (w.heap.size+1) 22 (ai .u8 (List.replicate 32 0))) ⟨by go_grown,(Whole.new rfl rfl).alloc _,Whole.new bj rfl⟩ ?_;intro W0 ⟨S,U,V⟩;have X:=aa S;have Y:=aa U;have Z:=aa V;clear S U V
 go_wp2_with fail
 refine(ww W0).mono ?_;rintro e W1 ⟨g,rfl,hg,⟨cd,E,t,u,v,x,F,y,G,H⟩,a⟩;have z:=aa (X.o.trans (a.mono X.o.size));have S1:=aa (Y.o.below a Y.o.inside);have R1:=aa (Z.o.below a Z.o.inside);have C1:=aa H;have CB:=aa (JN H);have F1:=aa F;have F2:=aa y;have I:=aa G;have q:=aa (by rw[am,F.len,y.len]:(cd++E).length=10);have J:=aa (HW.o.below z.o);have L:=aa (HF.o.below z.o);obtain⟨M,N⟩:=aP (wO E A (t,u,v,x) 256);have HM:=aa N;have O:=aa (by rw[N];exact uD y G A 256:uV M (uP A tx 256));clear F y G H a hg N
 go_wp2_with fail
 refine mp 10 (λW=>Below W1.heap.size W1 W) al al (bA (aw _ _) 1) ?_;refine mD (.pointer (some ⟨g,0,none⟩)) ?_;refine e9 (λK c=> ?_);refine jo al 22 (.tmp 1) rfl (w.heap.size) 0 rfl (ai .u8 sd) _ (λW b=>(At.below (At.j S1.o) b S1.o.inside)) underlying22 rfl (by rw[ag];exact gE.trans (aA some HL.o.symm)) ?_;go_simp;refine c _ ?_;clear c K;refine xO (.agg Q) (λW b=> ?_) ?_
 .refine cZ (f:=14) (args:=(#[.agg (ai .u8 sd)])) fN ?_;refine(n.o W (J.o.below b) (L.o.below b)).mono ?_;rintro e W' ⟨rfl,a⟩;exact⟨rfl,b.trans (a.mono b.size)⟩
 refine e9 (λK c=> ?_);refine qj al ⟨(.agg (ai .u8 A)),λW b=>aD (Fu C.o rfl rfl l.o W),?_⟩;go_simp;refine c _ ?_;clear c K;refine mD (.pointer (some ⟨g,0,none⟩)) ?_;refine mD (.pointer (some ⟨g,0,none⟩)) ?_;refine mD (.pointer (some ⟨g,10,none⟩)) ?_;refine e9 (λK c=> ?_);refine jo al 52 (.tmp 11) rfl (g) 10 rfl (ai .u64 (dY (t,u,v,x))) _ (λW b=>(At.below (At.field (o:=10) (pre:=cd++E) (ws:=dY (t,u,v,x)) (post:= []) CB.o q.o) b CB.o.inside)) underlying52 rfl (jL I.o) ?_;go_simp;refine c _ ?_;clear c K;refine xO (.agg (ai .u64 (dY M))) (λW b=> ?_) ?_
 .refine cZ (f:=13) (args:=(#[.pointer (some ⟨g,0,none⟩),.agg (ai .u8 A),.agg (ai .u64 (dY (t,u,v,x)))])) fN ?_;rw[HM.o];refine(yP F1.o F2.o I.o A l.o B.o I.o g W (C1.o.below b C1.o.inside)).mono ?_;rintro e W' ⟨rfl,a⟩;exact⟨rfl,b.trans (a.mono b.size)⟩
 refine xO (.agg (ai .u8 R)) (λW b=> ?_) ?_
 .refine cZ (f:=15) (args:=(#[.agg (ai .u64 (dY M))])) fN ?_;rw[<-D.o];refine(lD O.o W).mono ?_;rintro e W' ⟨rfl,a⟩;exact⟨rfl,b.trans (a.mono b.size)⟩
 refine q5 ?_;intro W2 a;have B2:=aa (z.o.trans (a.mono z.o.size));have P:=R1.o.below a R1.o.inside;have l2:=(At.j P).R (m:=32) (by rw[ag];rfl);have ro:=bY .u8 R 32 p.o;have R3:=aa P;clear a P
 go_wp2_with fail
 refine ej rfl underlying22 rfl gE (w.heap.size+1) (ai .u8 R) _ rfl rfl R3.o (by rw[ag];rfl) (by rw[ag,p.o]) ⟨rfl,?_⟩;exact B2.o.grown (aG _ _ _ _) B2.o.size (λk hk=>by injection hk with hk;omega)
end Go.Proofs.P
namespace Go.Spk
theorem mL{P}{ops}{S}{Cl:S->World->Prop}{o}{a}{K}{b}(c:Region.wanted o (yielded ops a.tmps)=false)(h:K b):if Region.wanted o (yielded ops a.tmps)then vN P o a Cl K else K b:=by grind
theorem X6(b:Nat)(h:b<256):bits BinOp.and IntKind.u8 (b:Int) 128=if 128<=b then 128 else 0:=by
 have a:=u8_and_nat b 128 h an;rw[show((128:Nat):Int)=128 from rfl]at a;rw[a];have d:∀b:Fin 256,b.val&&&128=if 128<=b.val then 128 else 0:=by decide+kernel
 have c:=d ⟨b,h⟩;simp only[]at c;rw[c]
 split<;>rfl
end Go.Spk
namespace Go.Proofs.P
theorem GO:prog.eqGuardType prog.depth 22=false:=al
theorem sn{a b}(c:a.length=32)(d:b.length=32)(w:ay):(Op.equalIn 10000 22 (.agg (ai .u8 a)) (.agg (ai .u8 b))).run prog w= .ok (decide (a=b)) w:=
 rQ (P:=prog) (k:= .u8) (k':= .u8) (t:=22) (e:=5) (λw=>by kernel_rfl) (λw=>by kernel_rfl) underlying22 underlying5 a b c d 9998 w
attribute [local go_sem ↓] li lm iw iy LJ LL Go.wp_at_zero Go.wp_at_succ
attribute [local go_sem] cr cD
theorem Gy(c:aR)(hl:c.length=32)(hu:jr c)(gc:Nat)(w:ay)(hc:qF w gc):
 Calls prog 193 #[.pointer (some ⟨gc,0,none⟩),.agg (ai .u8 c)] w λe w'=>(∃P,uV P (zb c).1/\e= .returned (.tuple #[.agg (ai .u64 (dY P)),.bool (zb c).2]))/\Below w.heap.size w w':=by
 obtain⟨cd,ct,cx,cy,cz,ck,h1,h2,h3,h4⟩:=hc;obtain⟨Q,ad⟩:=aP (BW c %pF);obtain⟨Y,hY⟩:=aP (fB (BW c));have C:=aa (by rw[hY,ad];exact DH _ (RI c):Fe Y Q);have HY:=aa hY;obtain⟨X,hX⟩:=aP ((pA cd Y).1);obtain⟨xb,S⟩:=aP ((pA cd Y).2);obtain⟨D,an⟩:=aP ((ur Q).1);have ao:=CZ h1 C.o;have U:=aa (by rw[hX,an];exact ao.1:Fe X D);have HX:=aa hX;have a3:=aa S;have aV:=aa (λW (h:Whole W gc 58 (ai .u64 (cd++ct++cx++cy++cz++ck)))=>uY h1 h2 h3 C.o gc W h);obtain⟨NX,av⟩:=aP (uQ X);have ax:=aa (by rw[av];exact tV U.o:Fe NX ((0+(pF -D)) %pF));have a0:=aa av;have aX:=aa (by rw[S,ao.2,an,ad];rfl:zb c=(tG (if 128<=ix c 31 then(0+(pF -D)) %pF else D) Q,xb&&decide (kp (tG (if 128<=ix c 31 then(0+(pF -D)) %pF else D) Q)=c)));have y:=aa hl;have a1:=aa (cY hu);obtain⟨az,H⟩:=au (hu 31).1;have aY:=(hu 31).2;rw[H]at aY;have V:=X6 az af;have I:=aa H;have HC:=aa h4;have aB:=aa (λW=>Dq (strOfNums c) (by rw[<-aj,cJ (cY hu),hl];decide) W);rw[cJ a1.o,<-hY]at aB;rw[<-hX,<-S]at aV;obtain⟨st,aC⟩:=aP (strOfNums c);rw[<-aC]at aB;have a2:=aa aC;clear h1 h2 h3 h4 ad hY hX S an ao av hl hu H aY aC
 go_enter func193,ntmps193
 go_upto_region 1 with(fail)
 refine aU (λW=>Below w.heap.size w W/\Whole W w.heap.size 22 (ai .u8 c)/\Whole W (w.heap.size+1) 52 (ai .u64 (List.replicate 20 0))) ⟨by go_grown,(Whole.new rfl rfl).alloc _,Whole.new bj rfl⟩ ?_;intro W0 ⟨r,j,v⟩;have B0:=aa r;have S0:=aa j;have R0:=aa v;have ab:=bv (P:=prog) W0 99 5 underlying99 underlying5 w.heap.size 0 32 32 c y.o (ey W0 _ _ c 32 j y.o) 9 underlying9;rw[<-a2.o]at ab;clear r j v
 go_wp2_with fail
 refine(aB.o W0).mono ?_;rintro e W1 ⟨rfl,g⟩;have B1:=aa (B0.o.trans (g.mono B0.o.size));have S1:=aa (S0.o.below g S0.o.inside);have R1:=aa (R0.o.below g R0.o.inside);have s1:=rF C.o.len;clear g ab
 go_upto_region 2 with(refine cQ rfl 50 (.tmp 6) (.tmp 12) rfl W1.heap.size (ai .u64 Y) rfl rfl 50 _ (dR _ _) s1 (by rw[ag,C.o.len];rfl) (fL _ _) ?_)
 refine aU (λW=>Below w.heap.size w W/\Whole W w.heap.size 22 (ai .u8 c)/\Whole W (w.heap.size+1) 52 (ai .u64 (List.replicate 20 0))/\Whole W W1.heap.size 50 (ai .u64 Y)) ⟨(B1.o.alloc B1.o.size _).grown (bW _ _ _) (by simp;exact bu B1.o.size) (λk t=>by injection t with t;subst t;exact B1.o.size),(S1.o.alloc _).only (bW _ _ _) (bE (bD S1.o.inside)),(R1.o.alloc _).only (bW _ _ _) (bE (bD R1.o.inside)),Whole.row (Whole.new (cs':=_) rfl rfl)⟩ ?_;intro W2 ⟨r,j,v,R⟩;clear s1 B0 S0 R0 B1 S1 R1;generalize W1.heap.size=gy at*;have B2:=aa r;have S2:=aa j;have R2:=aa v;have Y2:=aa R;have l1:=(At.j R).R (m:=5) (by rw[ag,C.o.len]);have r1:=(At.j R).row (m:=5) (by rw[ag,C.o.len]);have C2:=aa (HC.o.below r HC.o.inside);clear r j v R
 go_wp2_with fail
 refine(aV.o W2 C2.o).mono ?_;rintro e W3 ⟨rfl,g⟩;have B3:=aa (B2.o.trans (g.mono B2.o.size));have S3:=aa (S2.o.below g S2.o.inside);have R3:=aa (R2.o.below g R2.o.inside);have Y3:=aa (Y2.o.below g Y2.o.inside);have s1:=rF U.o.len;clear g l1 r1 C2
 go_upto_region 3 with(refine cQ rfl 50 (.tmp 7) (.tmp 17) rfl W3.heap.size (ai .u64 X) rfl rfl 50 _ (dR _ _) s1 (by rw[ag,U.o.len];rfl) (fL _ _) ?_)
 refine aU (λW=>Below w.heap.size w W/\Whole W w.heap.size 22 (ai .u8 c)/\Whole W (w.heap.size+1) 52 (ai .u64 (List.replicate 20 0))/\Whole W gy 50 (ai .u64 Y)/\Whole W W3.heap.size 50 (ai .u64 X)) ⟨(B3.o.alloc B3.o.size _).grown (bW _ _ _) (by simp;exact bu B3.o.size) (λk t=>by injection t with t;subst t;exact B3.o.size),(S3.o.alloc _).only (bW _ _ _) (bE (bD S3.o.inside)),(R3.o.alloc _).only (bW _ _ _) (bE (bD R3.o.inside)),(Y3.o.alloc _).only (bW _ _ _) (bE (bD Y3.o.inside)),Whole.row (Whole.new (cs':=_) rfl rfl)⟩ ?_;intro W4 ⟨r,j,v,R,kX⟩;have Z:=aa (show gy<W3.heap.size/\w.heap.size+1<W3.heap.size from⟨Y3.o.inside,R3.o.inside⟩);clear s1 B2 S2 R2 Y2 B3 S3 R3 Y3;generalize W3.heap.size=gx at*;have B4:=aa r;have S4:=aa j;have R4:=aa v;have Y4:=aa R;have X4:=aa kX;have aZ:W4.cell? ⟨w.heap.size,31,none⟩=some (.int .u8 (az:Int)):=by rw[<-I.o];exact j.int 31 (by rw[y.o];decide)
 clear r j v R kX
 by_cases E:128<=az
 .rw[aJ E]at V;have i:(128:Int)<=ix c 31:=by rw[I.o];omega
  have l1:=(At.j X4.o).R (m:=5) (by rw[ag,U.o.len]);have r1:=(At.j X4.o).row (m:=5) (by rw[ag,U.o.len]);have J:=aa i;clear E i
  go_wp2_with fail
  refine(ot U.o _).mono ?_;rw[show bU (mY [0,0,0,0,0] X)=NX from a0.o.symm];rintro e V1 ⟨rfl,g⟩;have BV:=aa (B4.o.trans (g.mono B4.o.size));have SV:=aa (S4.o.below g S4.o.inside);have RV:=aa (R4.o.below g R4.o.inside);have YV:=aa (Y4.o.below g Y4.o.inside);have XV:=aa (X4.o.below g X4.o.inside);have l3:=(At.j XV.o).R (m:=5) (by rw[ag,U.o.len]);have ro:=bY .u64 NX 5 ax.o.len;clear g l1 r1 aZ V
  go_upto_region 5 with(fail)
  have hg:=aG gx (ai .u64 NX).toList 0 V1;refine aU (λW=>Below w.heap.size w W/\Whole W w.heap.size 22 (ai .u8 c)/\Whole W (w.heap.size+1) 52 (ai .u64 (List.replicate 20 0))/\Whole W gy 50 (ai .u64 Y)/\Whole W gx 50 (ai .u64 NX)) ⟨BV.o.grown hg BV.o.size (λk t=>by injection t with t;have:=Z.o.2;omega),SV.o.only hg (bE (dp Z.o.2)),RV.o.only hg (bE (dp Z.o.2)),YV.o.only hg (bE (dp Z.o.1)),XV.o.fill (by rw[ag,ag,ax.o.len,U.o.len])⟩ ?_;intro W5 ⟨r,j,v,R,kX⟩;have B5:=aa r;have S5:=aa j;have R5:=aa v;have Y5:=aa R;have X5:=aa kX;clear r j v R kX hg l3 ro;have l:=aa (show Fe NX ((0+(pF -D)) %pF)from ax.o);obtain⟨PP,z⟩:=aP (AL NX Y);have aE:=aa z;have a:=aa (by rw[z];exact EU l.o C.o:uV PP (tG ((0+(pF -D)) %pF) Q));clear z;have l1:=(At.j X5.o).R (m:=5) (by rw[ag,l.o.len]);have r1:=(At.j X5.o).row (m:=5) (by rw[ag,l.o.len]);have l2:=(At.j Y5.o).R (m:=5) (by rw[ag,C.o.len]);have r2:=(At.j Y5.o).row (m:=5) (by rw[ag,C.o.len])
  go_wp2_with fail
  refine(tB l.o C.o _).mono ?_;rw[<-aE.o];rintro e W6 ⟨rfl,g⟩;have L:=aa (B5.o.trans (g.mono B5.o.size));have S6:=aa (S5.o.below g S5.o.inside);have R6:=aa (R5.o.below g R5.o.inside);have s1:=jL a.o;clear g l1 r1 l2 r2
  go_upto_region 6 with(refine cQ rfl 52 (.tmp 9) (.tmp 27) rfl W6.heap.size (ai .u64 (dY PP)) rfl rfl 52 _ (dR _ _) s1 (by rw[ag,cK a.o];rfl) (fL _ _) ?_)
  refine aU (λW=>Below w.heap.size w W/\Whole W w.heap.size 22 (ai .u8 c)/\Whole W (w.heap.size+1) 52 (ai .u64 (List.replicate 20 0))/\Whole W W6.heap.size 52 (ai .u64 (dY PP))) ⟨(L.o.alloc L.o.size _).grown (bW _ _ _) (by simp;exact bu L.o.size) (λk t=>by injection t with t;subst t;exact L.o.size),(S6.o.alloc _).only (bW _ _ _) (bE (bD S6.o.inside)),(R6.o.alloc _).only (bW _ _ _) (bE (bD R6.o.inside)),Whole.row (Whole.new (cs':=_) rfl rfl)⟩ ?_;intro W7 ⟨r,j,v,kP⟩;have M:=R6.o.inside;clear L S6 R6 s1;have A:=aa (show w.heap.size+1<W6.heap.size from M);clear M;generalize W6.heap.size=gp at*;have B7:=aa r;have S7:=aa j;have F:=aa v;have G:=aa kP;clear r j v kP;have N:=aa (λW=>lD a.o W);obtain⟨KB,n⟩:=aP (kp (tG ((0+(pF -D)) %pF) Q));have aF:=aa (by rw[n];exact iW _:KB.length=32);rw[<-n]at N;have x:zb c=(tG ((0+(pF -D)) %pF) Q,xb&&decide (KB=c)):=by rw[aX.o,aJ (dp J.o),n]
  have d:=aa x;clear n x;cases xb with
  |false=>
   refine dQ 8 (St W7 (w.heap.size+1) 0 (ai .u64 (dY PP)).toList) false al al (St.start _ _ _ _) ?_;refine bS (λK b=> ?_);refine dK al 52 (.tmp 9) rfl (gp) 0 rfl (ai .u64 (dY PP)) _ ((At.j G.o)) G.o.inside (dp A.o) underlying52 rfl (jL a.o) ?_;go_simp;refine b _ ?_;clear b K;refine qQ (.bool false) ?_;refine qQ (.bool false) ?_;refine bS (λK b=> ?_);refine mL al ?_;go_simp;refine b _ ?_;clear b K;refine bS (λK b=> ?_);refine mL al ?_;go_simp;refine b _ ?_;clear b K;refine bS (λK b=> ?_);refine mL al ?_;go_simp;refine b _ ?_;clear b K;refine bS (λK b=> ?_);refine mL al ?_;go_simp;refine b _ ?_;clear b K;refine qQ (.bool false) ?_;refine ft ?_;refine tT 52 (.tmp 4) (.tmp 28) (ai .u64 (dY PP)) rfl al rfl rfl rfl rfl (by rw[show(ai .u64 (dY PP)).size=(ai .u64 (List.replicate 20 0)).size by rw[ag,ag,cK a.o];rfl];exact(At.j F.o).2) F.o.inside (jL a.o) (iO _ _) ?_;refine tU (.bool false) al (λW=>by go_simp) ?_;refine tP ?_;intro aK o;have R9:=aa (o.all F.o (by rw[ag,ag,cK a.o];rfl));have BB:=aa (B7.o.grown o.grown B7.o.size (λq O=>by injection O with O;omega));clear o
   go_wp2_with fail
   exact cI (dN (p:=4) (u:=5) rfl _ _ (w.heap.size+1) 52 (ai .u64 (dY PP)) (0,0) _ rfl R9.o underlying52 rfl (jL a.o)) rfl ⟨⟨PP,by rw[d.o];exact a.o,by rw[d.o];rfl⟩,BB.o⟩
  |true=>
   have hg:=GO;have he:=λw=>sn aF.o y.o w;obtain⟨bb,B⟩:=aP (decide (KB=c));rw[<-B]at he;have aS:=aa B;clear B;refine dQ 8 (St W7 (w.heap.size+1) 0 (ai .u64 (dY PP)).toList) false al al (St.start _ _ _ _) ?_;refine bS (λK b=> ?_);refine dK al 52 (.tmp 9) rfl (gp) 0 rfl (ai .u64 (dY PP)) _ ((At.j G.o)) G.o.inside (dp A.o) underlying52 rfl (jL a.o) ?_;go_simp;refine b _ ?_;clear b K;refine qQ (.bool true) ?_;refine qQ (.bool true) ?_;refine bS (λK b=> ?_);refine dK al 52 (.tmp 9) rfl (gp) 0 rfl (ai .u64 (dY PP)) _ ((At.j G.o)) G.o.inside (dp A.o) underlying52 rfl (jL a.o) ?_;go_simp;refine b _ ?_;clear b K;refine rD (.agg (ai .u8 KB)) (λs W o=> ?_) ?_
   .refine fR (f:=15) (args:=(#[.agg (ai .u64 (dY PP))])) fN o ?_;exact N.o W
   refine bS (λK b=> ?_);refine dK al 22 (.tmp 3) rfl (w.heap.size) 0 rfl (ai .u8 c) _ ((At.j S7.o)) S7.o.inside (bD (Nat.lt_succ_self _)) underlying22 rfl (by rw[ag];exact gE.trans (aA some y.o.symm)) ?_;go_simp;refine b _ ?_;clear b K;refine qQ (.bool bb) ?_;refine qQ (.bool bb) ?_;refine ft ?_;refine tT 52 (.tmp 4) (.tmp 28) (ai .u64 (dY PP)) rfl al rfl rfl rfl rfl (by rw[show(ai .u64 (dY PP)).size=(ai .u64 (List.replicate 20 0)).size by rw[ag,ag,cK a.o];rfl];exact(At.j F.o).2) F.o.inside (jL a.o) (iO _ _) ?_;refine tU (.bool bb) al (λW=>by go_simp) ?_;refine tP ?_;intro aK o;have R9:=aa (o.all F.o (by rw[ag,ag,cK a.o];rfl));have BB:=aa (B7.o.grown o.grown B7.o.size (λq O=>by injection O with O;omega));clear o
   go_wp2_with fail
   exact cI (dN (p:=4) (u:=5) rfl _ _ (w.heap.size+1) 52 (ai .u64 (dY PP)) (0,0) _ rfl R9.o underlying52 rfl (jL a.o)) rfl ⟨⟨PP,by rw[d.o];exact a.o,by rw[d.o,<-aS.o];rfl⟩,BB.o⟩
 .rw[aq E]at V;have i:¬(128:Int)<=ix c 31:=by rw[I.o];omega
  have J:=aa i;clear E i
  go_upto_region 5 with(fail)
  have B5:=B4;have S5:=S4;have R5:=R4;have Y5:=Y4;have X5:=X4;clear aZ V;have l:=aa (show Fe X D from U.o);obtain⟨PP,z⟩:=aP (AL X Y);have aE:=aa z;have a:=aa (by rw[z];exact EU l.o C.o:uV PP (tG D Q));clear z;have l1:=(At.j X5.o).R (m:=5) (by rw[ag,l.o.len]);have r1:=(At.j X5.o).row (m:=5) (by rw[ag,l.o.len]);have l2:=(At.j Y5.o).R (m:=5) (by rw[ag,C.o.len]);have r2:=(At.j Y5.o).row (m:=5) (by rw[ag,C.o.len])
  go_wp2_with fail
  refine(tB l.o C.o _).mono ?_;rw[<-aE.o];rintro e W6 ⟨rfl,g⟩;have L:=aa (B5.o.trans (g.mono B5.o.size));have S6:=aa (S5.o.below g S5.o.inside);have R6:=aa (R5.o.below g R5.o.inside);have s1:=jL a.o;clear g l1 r1 l2 r2
  go_upto_region 6 with(refine cQ rfl 52 (.tmp 9) (.tmp 27) rfl W6.heap.size (ai .u64 (dY PP)) rfl rfl 52 _ (dR _ _) s1 (by rw[ag,cK a.o];rfl) (fL _ _) ?_)
  refine aU (λW=>Below w.heap.size w W/\Whole W w.heap.size 22 (ai .u8 c)/\Whole W (w.heap.size+1) 52 (ai .u64 (List.replicate 20 0))/\Whole W W6.heap.size 52 (ai .u64 (dY PP))) ⟨(L.o.alloc L.o.size _).grown (bW _ _ _) (by simp;exact bu L.o.size) (λk t=>by injection t with t;subst t;exact L.o.size),(S6.o.alloc _).only (bW _ _ _) (bE (bD S6.o.inside)),(R6.o.alloc _).only (bW _ _ _) (bE (bD R6.o.inside)),Whole.row (Whole.new (cs':=_) rfl rfl)⟩ ?_;intro W7 ⟨r,j,v,kP⟩;have M:=R6.o.inside;clear L S6 R6 s1;have A:=aa (show w.heap.size+1<W6.heap.size from M);clear M;generalize W6.heap.size=gp at*;have B7:=aa r;have S7:=aa j;have F:=aa v;have G:=aa kP;clear r j v kP;have N:=aa (λW=>lD a.o W);obtain⟨KB,n⟩:=aP (kp (tG D Q));have aF:=aa (by rw[n];exact iW _:KB.length=32);rw[<-n]at N;have x:zb c=(tG D Q,xb&&decide (KB=c)):=by rw[aX.o,aq (dp J.o),n]
  have d:=aa x;clear n x;cases xb with
  |false=>
   refine dQ 8 (St W7 (w.heap.size+1) 0 (ai .u64 (dY PP)).toList) false al al (St.start _ _ _ _) ?_;refine bS (λK b=> ?_);refine dK al 52 (.tmp 9) rfl (gp) 0 rfl (ai .u64 (dY PP)) _ ((At.j G.o)) G.o.inside (dp A.o) underlying52 rfl (jL a.o) ?_;go_simp;refine b _ ?_;clear b K;refine qQ (.bool false) ?_;refine qQ (.bool false) ?_;refine bS (λK b=> ?_);refine mL al ?_;go_simp;refine b _ ?_;clear b K;refine bS (λK b=> ?_);refine mL al ?_;go_simp;refine b _ ?_;clear b K;refine bS (λK b=> ?_);refine mL al ?_;go_simp;refine b _ ?_;clear b K;refine bS (λK b=> ?_);refine mL al ?_;go_simp;refine b _ ?_;clear b K;refine qQ (.bool false) ?_;refine ft ?_;refine tT 52 (.tmp 4) (.tmp 28) (ai .u64 (dY PP)) rfl al rfl rfl rfl rfl (by rw[show(ai .u64 (dY PP)).size=(ai .u64 (List.replicate 20 0)).size by rw[ag,ag,cK a.o];rfl];exact(At.j F.o).2) F.o.inside (jL a.o) (iO _ _) ?_;refine tU (.bool false) al (λW=>by go_simp) ?_;refine tP ?_;intro aK o;have R9:=aa (o.all F.o (by rw[ag,ag,cK a.o];rfl));have BB:=aa (B7.o.grown o.grown B7.o.size (λq O=>by injection O with O;omega));clear o
   go_wp2_with fail
   exact cI (dN (p:=4) (u:=5) rfl _ _ (w.heap.size+1) 52 (ai .u64 (dY PP)) (0,0) _ rfl R9.o underlying52 rfl (jL a.o)) rfl ⟨⟨PP,by rw[d.o];exact a.o,by rw[d.o];rfl⟩,BB.o⟩
  |true=>
   have hg:=GO;have he:=λw=>sn aF.o y.o w;obtain⟨bb,B⟩:=aP (decide (KB=c));rw[<-B]at he;have aS:=aa B;clear B;refine dQ 8 (St W7 (w.heap.size+1) 0 (ai .u64 (dY PP)).toList) false al al (St.start _ _ _ _) ?_;refine bS (λK b=> ?_);refine dK al 52 (.tmp 9) rfl (gp) 0 rfl (ai .u64 (dY PP)) _ ((At.j G.o)) G.o.inside (dp A.o) underlying52 rfl (jL a.o) ?_;go_simp;refine b _ ?_;clear b K;refine qQ (.bool true) ?_;refine qQ (.bool true) ?_;refine bS (λK b=> ?_);refine dK al 52 (.tmp 9) rfl (gp) 0 rfl (ai .u64 (dY PP)) _ ((At.j G.o)) G.o.inside (dp A.o) underlying52 rfl (jL a.o) ?_;go_simp;refine b _ ?_;clear b K;refine rD (.agg (ai .u8 KB)) (λs W o=> ?_) ?_
   .refine fR (f:=15) (args:=(#[.agg (ai .u64 (dY PP))])) fN o ?_;exact N.o W
   refine bS (λK b=> ?_);refine dK al 22 (.tmp 3) rfl (w.heap.size) 0 rfl (ai .u8 c) _ ((At.j S7.o)) S7.o.inside (bD (Nat.lt_succ_self _)) underlying22 rfl (by rw[ag];exact gE.trans (aA some y.o.symm)) ?_;go_simp;refine b _ ?_;clear b K;refine qQ (.bool bb) ?_;refine qQ (.bool bb) ?_;refine ft ?_;refine tT 52 (.tmp 4) (.tmp 28) (ai .u64 (dY PP)) rfl al rfl rfl rfl rfl (by rw[show(ai .u64 (dY PP)).size=(ai .u64 (List.replicate 20 0)).size by rw[ag,ag,cK a.o];rfl];exact(At.j F.o).2) F.o.inside (jL a.o) (iO _ _) ?_;refine tU (.bool bb) al (λW=>by go_simp) ?_;refine tP ?_;intro aK o;have R9:=aa (o.all F.o (by rw[ag,ag,cK a.o];rfl));have BB:=aa (B7.o.grown o.grown B7.o.size (λq O=>by injection O with O;omega));clear o
   go_wp2_with fail
   exact cI (dN (p:=4) (u:=5) rfl _ _ (w.heap.size+1) 52 (ai .u64 (dY PP)) (0,0) _ rfl R9.o underlying52 rfl (jL a.o)) rfl ⟨⟨PP,by rw[d.o];exact a.o,by rw[d.o,<-aS.o];rfl⟩,BB.o⟩
end Go.Proofs.P
namespace Go.Spk
theorem ud(l:aR):(xd l).length=32:=fP _ _
theorem Br(l:aR):∀z∈xd l,0<=z/\z<=255:=Al _ _
theorem CA(s:aR):∀z∈(pu s).2,0<=z/\z<=255:=λz a=>kY _ _ z (ie a)
theorem yn(s:aR):(pu s).2.length=32:=by
 show((mj true s).drop 32).length=32;rw[bK,eG];rfl
theorem eD(s:bB)(l:eL):gI (s::l)=bI s++gI l:=by unfold gI;rw[mS]
theorem nf:gI []= []:=rfl
end Go.Spk
namespace Go.Proofs.P
abbrev Yq:List Nat:= [5,5,20]
abbrev TH:=List Int×List Int×PL
abbrev Yr(x:TH):List (List Value):= [x.1.map (.int .u64),x.2.1.map (.int .u64),(dY x.2.2).map (.int .u64)]
structure aaa(x:TH):Prop where
 d:Fe x.1 dE
 t:Fe x.2.1 ZQ
 b:uV x.2.2 tx
theorem L4(W:ay):Calls prog 12 #[] W λe a=> ∃(x:TH) (g:Nat),e= .returned (.pointer (some ⟨g,0,none⟩))/\W.heap.size<=g/\kL 58 Yq (Yr x) a.heap[g]?/\aaa x/\Below W.heap.size W a:=
 (ww W).mono λe a ⟨g,f,h,⟨i,j,k,l,m,n,b,c,d,o⟩,p⟩=>⟨(i,j,(k,l,m,n)),g,f,h,⟨by simp[b.len,c.len,cK d],(show a.heap[g]?=_ from o).trans (by simp[ai,dY])⟩,⟨b,c,d⟩,p⟩
section
variable {w W:World}{M:List Nat}{s:List En}{g p i:Nat}{m:Bool}{x:TH}
theorem Qo(a:Hp w M s W)(b:s[p]?=some (bl i g m (kL 58 Yq) (Yr x))):Whole W g 58 (ai .u64 (x.1++x.2.1++x.2.2.1++x.2.2.2.1++x.2.2.2.2.1++x.2.2.2.2.2)):=by
 have h:=(a.en _ (ah b)).2;show W.heap[g]?=_;rw[show W.heap[g]?=_ from h];simp[ai,bl,dY]
theorem aay{dr}{X}{t}(a:Hp w M t W)(hl:leq dr X s t)(b:s[p]?=some (bl i g m (kL 58 Yq) (Yr x)))(c:(dr&&(List.range 3).any λk=>X.contains (i*1000+k))=false):Whole W g 58 (ai .u64 (x.1++x.2.1++x.2.2.1++x.2.2.2.1++x.2.2.2.2.1++x.2.2.2.2.2)):=by
 have h:=a.zT hl b c rfl;show W.heap[g]?=_;rw[show W.heap[g]?=_ from h];simp[ai,dY]
theorem E9(f:aaa x)(a:aR)(c:a.length=32)(i:jr a){q}{n}(hq:uV q n)(h:Whole W g 58 (ai .u64 (x.1++x.2.1++x.2.2.1++x.2.2.2.1++x.2.2.2.2.1++x.2.2.2.2.2))):Calls prog 13 #[.pointer (some ⟨g,0,none⟩),.agg (ai .u8 a),.agg (ai .u64 (dY q))] W λe j=>e= .returned (.agg (ai .u64 (dY (wO x.2.1 a q 256))))/\Below W.heap.size W j:=
 yP (cx:=x.2.2.1) (cy:=x.2.2.2.1) (cz:=x.2.2.2.2.1) (ck:=x.2.2.2.2.2) f.d f.t f.b a c i hq g W h
theorem Sr{l}{z}{ty}(v:cH)(R:aR)(b:R=xd (gI l))(hv:v= .slice (some ⟨g,0,none⟩) l.length l.length)(hl:l.length<=1000000)(c:(gI l).length<=10000000)(a:dt W/\dJ W/\jS W)(d:Hp w M s W)(f:s[p]?=some (bl i g m (kL ty [z]) [l.map Value.string])):
 Calls prog 188 #[v] W λe h=>e= .returned (.agg (ai .u8 R))/\Below W.heap.size W h:=by
 subst b hv;exact Cj _ l W (ee.j (d.um f).1) hl c a.1 a.2.1 a.2.2
end
theorem aaz{w}(a:dt w)(hf:dJ w)(b:jS w)(W:ay)(h:Below w.heap.size w W):dt W/\dJ W/\jS W:=⟨a.below h,hf.below h,b.below h⟩
theorem Gz(sd:aR)(hl:sd.length=32)(Q:jr sd)(m:bB)(hm:m.size<=1000000)(w:ay)(R:dt w)(hf:dJ w)(S:jS w):
 Calls prog 155 #[.agg (ai .u8 sd),.string m] w λe Y=>e= .returned (.agg (ai .u8 (qX sd (bI m))))/\Below w.heap.size w Y:=by
 obtain⟨A,G⟩:=eZ ((pu sd).1);obtain⟨J,H⟩:=eZ ((pu sd).2);obtain⟨y,D⟩:=eZ (strOfNums J);obtain⟨r,d⟩:=eZ (kp (uP A tx 256));obtain⟨k,l⟩:=eZ (xd (J++bI m));obtain⟨c,n⟩:=eZ (kp (uP k tx 256));obtain⟨B,o⟩:=eZ (xd (c++r++bI m));obtain⟨C,s⟩:=eZ (oT 32 ((q7 B*q7 A+q7 k) %lS));have u:A.length=32:=by rw[G.o];exact rN sd
 have K:r.length=32:=by rw[d.o];exact iW _
 have E:k.length=32:=by rw[l.o];exact ud _
 have q:c.length=32:=by rw[n.o];exact iW _
 have L:B.length=32:=by rw[o.o];exact ud _
 have F:C.length=32:=by rw[s.o];exact fP _ _
 have U:(c++C).length=64:=by simp[q,F]
 have o1:∀(i:Nat) (x:i<(ai .u8 A).size),(ai .u8 A)[i].oneCell'=true:=λi x=>by simp[ai,Value.oneCell']
 have o2:(Value.string y).oneCell'=true:=rfl;have V:=aa (by rw[G.o];exact wS sd:jr A);have X:=aa (by rw[l.o];exact cm (Br _):jr k);have Z:=aa (by rw[o.o];exact cm (Br _):jr B);have M:bI y=J:=by rw[D.o];exact cJ (by rw[H.o];exact CA sd)
 have N:bI (strOfNums c)=c:=cJ (by rw[n.o];exact sg _);have O:bI (strOfNums r)=r:=cJ (by rw[d.o];exact sg _);have OP:=aa (λW (h:dt W/\dJ W/\jS W)=>(by rw[D.o,H.o,G.o];rfl:Wq sd=ai .u8 A++ #[Value.string y])▸yQ sd hl Q W h.1 h.2.1);have E1:=aa (by rw[l.o,eD,eD,nf,bP,M]:k=xd (gI [y,m]));have E2:=aa (by rw[o.o,eD,eD,eD,nf,bP,N,O,bf]:B=xd (gI [strOfNums c,strOfNums r,m]));have Z1:=aa (by rw[eD,eD,nf,bP,M,am,aj,H.o,yn];omega:(gI [y,m]).length<=10000000);have Z2:=aa (by rw[eD,eD,eD,nf,bP,N,O,am,am,aj,q,K];omega:(gI [strOfNums c,strOfNums r,m]).length<=10000000);have I:=aa (aaz R hf S);rw[show qX sd (bI m)=c++C by rw[s.o,o.o,n.o,l.o,d.o,G.o,H.o];rfl];clear Q hm R hf S M N O;refine TC.enter func155 ntmps155 [] [] (Hp.nil _ _) ?_;refine T.one 0 (TO.J (z:=32) λbs=> ?_);refine T.one 1 (TO.J (z:=64) λbr=> ?_);refine TC.rg [60103000] ?_;refine T.one 0 (TO.cg (vf:=λ_ g=> .pointer (some ⟨g,0,none⟩)) (λW _=>L4 W) λx g f=> ?_);have f:=aa f;refine T.one 2 (TO.qk (λW a=>OP.o W (I.o W a.below)) ?_);refine T.one 3 (TO.J (z:=33) λbx=> ?_);refine TC.split 3 [32,1] [A.map (.int .u8),[.string y]] (he:=by simp[ai,loc]) (hl:=by simp[u]) ?_;refine TC.rg [110109000] ?_;refine T.one 7 (TO.qk (λW a=>E9 f.o A u V.o f.o.b (Qo a (p:=2) rfl)) ?_);refine T.one 8 (TO.qk (v:= .agg (ai .u8 r)) (λW _=>by rw[d.o];exact lD (uD f.o.t f.o.b A 256) W) ?_);refine T.one 9 (TO.J (z:=32) λb7=> ?_);refine T.one 3 (TO.news (z:=2) λb3=> ?_);refine T.one 4 (TO.qk (λW a=>Sr _ k E1.o rfl bj Z1.o (I.o W a.below) a (p:=5) rfl) ?_);refine T.one 5 (TO.J (z:=32) λb8=> ?_);refine TC.drop 5 ?_;refine TC.drop 0 ?_;refine TC.rg [100108000] ?_;refine T.one 6 (TO.qk (λW a=>E9 f.o k E X.o f.o.b (Qo a (p:=1) rfl)) ?_);refine T.one 7 (TO.qk (v:= .agg (ai .u8 c)) (λW _=>by rw[n.o];exact lD (uD f.o.t f.o.b k 256) W) ?_);refine T.one 8 (TO.J (z:=32) λb9=> ?_);refine TC.rg [130111000] ?_;refine T.Xv 1 5 c ?_;refine T.Xv 3 3 r ?_;refine T.one 5 (TO.news (z:=3) λb5=> ?_);refine T.one 6 (TO.qk (λW a=>Sr _ B E2.o rfl bj Z2.o (I.o W a.below) a (p:=6) rfl) ?_);refine T.one 10 (TO.qk (v:= .agg (ai .u8 C)) (λW a=>by rw[s.o];exact CL B A k L u E Z.o V.o X.o W (I.o W a.below).2.2) ?_);refine T.one 11 (TO.J (z:=32) λab=> ?_);refine T.one 0 (TO.J (z:=64) λbo=> ?_);refine TC.rg [30100000] ?_;refine T.one 2 (TO.cpy 8 (c.map (.int .u8)) (q':=c.map (.int .u8)++List.replicate 32 (.int .u8 0)) (λW a j v P=>by rw[Addr.add_mid,aW,(a.um (p:=5) rfl).1.at_];simpa using P) ?_ (hq':=by simp only[List.length_map,q];rfl));refine TC.rg [30100000] ?_;refine T.one 2 (TO.cpy 8 (C.map (.int .u8)) (q':=(c++C).map (.int .u8)) (λW a j v P=>by rw[Addr.add_mid,aW,(a.um (p:=7) rfl).1.at_];simpa using P) ?_ (hq':=by simp[List.drop_append,q,F]));refine TE.rc ?_;exact λW a=>⟨by simp[ai,loc],a.below⟩
theorem Ck(c:aR)(P:c.length=32)(J:jr c)(m:bB)(hm:m.size<=1000000)(y:aR)(K:y.length=64)(L:jr y)(w:ay)(R:dt w)(hf:dJ w)(S:jS w):
 Calls prog 159 #[.agg (ai .u8 c),.string m,.agg (ai .u8 y)] w λe w'=>e= .returned (.bool (je c (bI m) y))/\Below w.heap.size w w':=by
 obtain⟨i,j⟩:=eZ (y.take 32);obtain⟨l,n⟩:=eZ (y.drop 32);have HG:=aa (by rw[j.o,n.o,cR]:y=i++l);have o:i.length=32:=by rw[j.o,aO,K];rfl
 have s:l.length=32:=by rw[n.o,bK,K]
 have bl:bI (strOfNums i)=i:=cJ (by rw[j.o];exact λz hz=>cY L z (dW hz));have I:bI (strOfNums c)=c:=cJ (cY J);have U:=aa (by rw[n.o];exact pW L 32:jr l);obtain⟨V,E⟩:=eZ ((zb c).1);obtain⟨M,F⟩:=eZ ((zb c).2);obtain⟨X,G⟩:=eZ (decide (q7 l<lS));obtain⟨A,u⟩:=eZ (xd (i++c++bI m));obtain⟨H,B⟩:=eZ (kp (No (uP l tx 256) (uP A (Zc V) 256)));have N:A.length=32:=by rw[u.o];exact ud _
 have O:H.length=32:=by rw[B.o];exact iW _
 have UK:=aa (by rw[u.o];exact cm (Br _):jr A);have Y:=aa (λg W (h:qF W g)=>Gy c P J g W h);rw[<-E.o,<-F.o]at Y;have Z:=aa (λW (h:jS W)=>IG l s U.o W h);rw[<-G.o]at Z;have E2:=aa (by rw[u.o,eD,eD,eD,nf,bP,bl,I,bf]:A=xd (gI [strOfNums i,strOfNums c,m]));have Z2:=aa (by rw[eD,eD,eD,nf,bP,bl,I,am,am,aj,o,P];omega:(gI [strOfNums i,strOfNums c,m]).length<=10000000);have EV:=aa (aaz R hf S);rw[show je c (bI m) y=(M&&X&&decide (H=i)) by rw[B.o,u.o,G.o,F.o,E.o,n.o,j.o];rfl];rw[HG.o];clear J hm K L R hf S bl I;refine TC.enter func159 ntmps159 [] [] (Hp.nil _ _) ?_;refine T.one 0 (TO.J (z:=32) λI=> ?_);refine T.one 1 (TO.J (z:=64) (hz:=by simp[ag,o,s]) (hgo:=λ_ k=>k) λbs=> ?_);refine T.q _ ?_;refine T.fin ?_;refine TE.Ph ?_;refine TC.split 1 [32,32] [i.map (.int .u8),l.map (.int .u8)] (he:=by simp) (hl:=by simp[o,s]) ?_;refine T.one 0 (TO.cg (vf:=λ_ g=> .pointer (some ⟨g,0,none⟩)) (λW _=>L4 W) λx g f=> ?_);have f:=aa f;refine T.one 2 (TO.cq (C:=λQ=>uV Q V) (vf:=λQ=> .tuple #[.agg (ai .u64 (dY Q)),.bool M]) (λW a=>(Y.o g W ⟨_,_,_,_,_,_,f.o.d,f.o.t,f.o.b,Qo a (p:=2) rfl⟩).mono λr W' ⟨⟨Q,h1,h2⟩,h3⟩=>⟨Q,h2,h1,h3⟩) λQ D=> ?_);have ab:=cK D;have D:=aa D;refine T.one 6 (TO.J (z:=20) λb8=> ?_);refine T.one 3 (TO.J (z:=32) λad=> ?_);cases M
 .refine T.z ?_;exact TE.rv λW a=>⟨rfl,a.below⟩
 refine T.z ?_;refine T.one 4 (TO.qk (λW a=>Z.o W (EV.o W a.below).2.2) ?_);cases X
 .refine go ?_;exact TE.rv λW a=>⟨rfl,a.below⟩
 refine go ?_;refine TC.rg [90107000] ?_;refine T.cvp 1 1 0 i ?_;refine T.Xv 3 0 c ?_;refine T.one 5 (TO.news (z:=3) λb5=> ?_);refine T.one 6 (TO.qk (λW a=>Sr _ A E2.o rfl bj Z2.o (EV.o W a.below) a (p:=5) rfl) ?_);refine T.one 7 (TO.J (z:=32) λb7=> ?_);refine TC.rg [] ?_;refine T.qc 7 (λt ht W a=>E9 f.o l s U.o f.o.b (aay a ht (p:=2) rfl rfl)) ?_;refine T.qc 11 (λ_ _ W _=>JT D.o W) ?_;refine T.one 12 (TO.qk (λW a=>E9 f.o A N UK.o (MA D.o) (Qo a (p:=2) rfl)) ?_);have HA:=aa (uD f.o.t f.o.b l 256);have HB:=aa (uD f.o.t (MA D.o) A 256);refine T.one 13 (TO.qk (λW a=>AC (cx:=x.2.2.1) (cy:=x.2.2.2.1) (cz:=x.2.2.2.2.1) (ck:=x.2.2.2.2.2) f.o.d f.o.t f.o.b HA.o HB.o g W (Qo a (p:=2) rfl)) ?_);refine T.one 14 (TO.qk (v:= .agg (ai .u8 H)) (λW _=>by rw[B.o];exact lD (we f.o.t HA.o HB.o) W) ?_);have he:=λw=>sn O o w;refine T.qw 18 (.bool (decide (H=i))) ?_;exact TE.rv (v:= .bool (decide (H=i))) λW a=>⟨bj,a.below⟩
end Go.Proofs.P
