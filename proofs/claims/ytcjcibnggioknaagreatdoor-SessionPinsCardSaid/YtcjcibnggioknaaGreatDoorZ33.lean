/- Lemmas on which SessionPins rests. -/
import Derived.Test.YtcjcibnggioknaaGreatDoorZ32
set_option maxRecDepth 100000
set_option maxHeartbeats 40000000
set_option linter.unusedVariables false
open Go.RowKit Go.Spk
open Go.Proofs.Tryz
namespace Go.Proofs.P
theorem EX:dn LitN.host:=⟨rfl,cm an⟩
theorem Zp(a:aR)(f:dn a):∃(N:Nat->Prop) (k:Nat) (R:fe),N 1073741824/\k<=2000000/\iK N k 0 (In ⟨#[99]⟩ ⟨#[115]⟩ ⟨#[115]⟩ ⟨#[116]⟩ LitN.host a 0) R/\((lX LitN.host=a/\R=⟨ES.c3 ES.key 0,ES.s3 0,⟨#[]⟩,⟨#[]⟩,[],[],none,none⟩)\/(lX LitN.host≠a/\R.c.gone=true/\R.s.gone=true/\R.c.c7=0/\R.mW= []/\R.mX= []/\R.qA=some 13/\R.qB=some 17)):=by
 by_cases h:lX LitN.host=a
 .obtain⟨k,b,d⟩:=MY ET Mn Am.nil;have e:=h;rw[show lX LitN.host=ES.key from LitN.tK]at e;subst e;exact⟨_,k,_,an,b,d,.inl ⟨h,rfl⟩⟩
 .obtain⟨k,R,b,d,g⟩:=Wf ET Mn a f (by rw[show ES.key=lX LitN.host from LitN.tK.symm];exact h);exact⟨(· =1073741824),k,R,rfl,b,d,.inr ⟨h,g⟩⟩
theorem YA{E:gn}{W:ay}{k p:Nat}{o:Option Nat}(h:Ca E W o (.iface 82 (.pointer (some ⟨p,0,none⟩))))(b:o=some k):sc E W k p:=by
 subst b;obtain⟨q,a,c⟩:=h;unfold dl at a;cases a;exact c
theorem aaA{E:gn}{W:ay}{k:Nat}{o:Option Nat}{v:cH}(h:Ca E W o v)(a:o=some k):∃p,v= .iface 82 (.pointer (some ⟨p,0,none⟩)):=by
 subst a;obtain⟨q,b,_⟩:=h;exact⟨q,b⟩
theorem Zq{E:gn}{w:ay}(en:Env w E)(F:30<=w.heap.size)(Y:w.cell? ⟨20,0,none⟩=some (IE 27))(G:aR)(o:dn G)(u:Bool):Calls prog 3 #[.agg (ai .u8 G),.bool u] w λr w'=>r= .returned (.bool true)/\Below w.heap.size w w':=by
 have E0:=aa en;have N0:=aa F;have Z:=aa (λW (a:Below w.heap.size w W)=>en.below a);have HS:=aa (λW (a:Below w.heap.size w W)=>show 30<=W.heap.size from ap F a.size);have aG:=aa (λ(W:World) (hb:Below w.heap.size w W)=>(ci.cL hb []).cell Y bj);obtain⟨C,I⟩:=eZ (LitN.host);obtain⟨e,V⟩:=eZ (lX C);obtain⟨j,J⟩:=eZ (if u then e else G);have ab:e.length=32:=by rw[V.o];exact mN _
 have ad:C.length=32:=by rw[I.o];rfl
 have aP:=o.1;have K:=aa (by rw[J.o];cases u;exact o;rw[V.o];exact Kg _:dn j);have B:=K.o.1;have HB:=aa (by rw[I.o];exact EX:dn C);have aj:=aa (λW h f=>sm C HB.o.1 HB.o.2 W h f);have al:=aa (λW h f=>sm LitN.host EX.1 EX.2 W h f);rw[show lX LitN.host=e by rw[V.o,I.o]]at al;obtain⟨N,k,R,hN,X,D,hD⟩:=Zp j K.o;rw[<-I.o,<-V.o]at hD;obtain⟨P,hP⟩:=eZ (In ⟨#[99]⟩ ⟨#[115]⟩ ⟨#[115]⟩ ⟨#[116]⟩ C j 0);rw[<-I.o,<-hP.o]at D;rw[<-V.o]at aj;have HN:=aa hN;have HK:=aa X;have HR:=aa D;have HD:=aa hD;have AW:=aa (λW (a:Below w.heap.size w W)=>Ua (Z.o W a) (HS.o W a));have aS:=aa o;clear en F Y o hN X D hD;cases u
 all_goals
  simp only[if_true,if_false,Bool.false_eq_true]at J;refine TC.enter func3 ntmps3 [] [] (Hp.nil _ _) ?_;refine T.one 0 (TO.J (z:=32) λbp=> ?_);refine T.one 0 (TO.qk (λW a=>AW.o W a.below) ?_);refine T.one 1 (TO.J (z:=32) λbh=> ?_);refine T.put 1 [C.map (.int .u8)] (he:=by rw[I.o];rfl) ?_
 case' true=>refine T.one 1 (TO.qk (λW a=>al.o W (Z.o W a.below).words (Z.o W a.below).first) ?_)
 all_goals
  rw[<-J.o];refine T.bd 1 Ut (v:= .agg (mw true ⟨#[99]⟩ ⟨#[115]⟩ av j 0)) (hv:=by simp[mw,Value.cells,ai,av];rfl) ?_;refine T.one 2 (TO.cf (vf:=λx=> .tuple #[.pointer (some ⟨x.1,0,none⟩),.nilIface]) (v8.loc w.heap.size (oA true ⟨#[99]⟩ ⟨#[115]⟩ av j 0)) (λW a=>MB a.base.size (Z.o W a.below) (HS.o W a.below) true ⟨#[99]⟩ ⟨#[115]⟩ av j 0 an an an dn.av K.o) λxc l1 l2=> ?_);refine T.bd 1 Ut (v:= .agg (mw false ⟨#[115]⟩ ⟨#[116]⟩ C av 0)) (hv:=by simp[mw,Value.cells,ai,av];rfl) ?_;refine T.one 2 (TO.cf (vf:=λx=> .tuple #[.pointer (some ⟨x.1,0,none⟩),.nilIface]) (v8.loc w.heap.size (oA false ⟨#[115]⟩ ⟨#[116]⟩ C av 0)) (λW a=>MB a.base.size (Z.o W a.below) (HS.o W a.below) false ⟨#[115]⟩ ⟨#[116]⟩ C av 0 an an an HB.o dn.av) λxs l3 l4=> ?_);refine T.one 3 (TO.J (z:=8) (hgo:=λ_ k=>k) λgp=> ?_);refine T.q _ ?_;refine T.fin ?_;refine TE.Ph ?_;obtain⟨y,hy⟩:∃y:PB,Hid (y=⟨gp,xc.1,xc.2,xs.1,xs.2⟩):=⟨_,aa rfl⟩;refine TC.base (M':=λ_=>y.M) (s':=λW=>xN E W y P (px0 W y P)) (λW a=> ?_) (λW a=> ?_)
  .rw[hy.out,hP.o];have L:=nP.of a (a.ge (p:=4) rfl) (i1:=2) (i2:=3) (i3:=4) rfl rfl rfl an;exact nP.hp L λm hm=>(L.lo m hm).2
  have L:=nP.of a (a.ge (p:=4) rfl) (i1:=2) (i2:=3) (i3:=4) rfl rfl rfl an;have A:PW E w W y:=by rw[hy.out];exact L.pw E0.o N0.o a.below (ak _)
  have WP:=aa (show Whole W bp 22 (ai .u8 j)from a.rowOf (p:=0) rfl);have WH:=aa (show Whole W bh 22 (ai .u8 C)from a.rowOf (p:=1) rfl);have MP:=aa (by rw[hy.out];exact L.nin WP.o an an an:bp∉y.M);have MH:=aa (by rw[hy.out];exact L.nin WH.o an an an:bh∉y.M);have KY:=aa (λl (b:ci y.M W l)=>aj.o l (A.ctx b (g:=y.gC) bj).env.words (A.ctx b (g:=y.gC) bj).env.first);have ER:=aa (λl (b:ci y.M W l)=>(A.ctx b (g:=y.gC) bj).env.gY);have AT:=aa (λl (b:ci y.M W l)=>aG.o l (A.Jw.trans (b.below A.Jw.size A.lo)));have ye:gp=y.gp/\xc.1=y.gC/\xs.1=y.gS:=by rw[hy.out];exact⟨rfl,rfl,rfl⟩
  rw[ye.1,ye.2.1,ye.2.2];clear L ye a;unfold xN yv;refine go ?_;refine T.one 1 (TO.hp (vf:=λ_=> .tuple #[]) (hgo:=λ_ k=>k) (λl b=>DU A HN.o k HK.o HR.o b) λx=> ?_);refine T.fin ?_;refine TE.Ph ?_;refine TC.lift λl b=> ?_;have q:=b.q0;have lC:=ML (show l.ownsRow W.heap.size 9 1 (sl x.xC) _ (R.mW.map Value.string)from b.en _ (ah (i:=2) rfl));have lS:=ML (show l.ownsRow W.heap.size 9 1 (sl x.xS) _ (R.mX.map Value.string)from b.en _ (ah (i:=3) rfl));obtain⟨r,d,⟨a1,a2,a3⟩,⟨c1,c2,c3⟩,eC,eS⟩:=x;have he:=λw=>sn B ab w;have aU:=λw=>sn ab B w;clear b;rcases HD.o with⟨X,D⟩|⟨ao,ax,az,aB,aC,aE,O,Q⟩
  .have e1:decide (j=e)=true:=by simp[X]
   have e2:decide (e=j)=true:=by simp[X]
   obtain rfl:eC= .nilIface:=by have:=q.eC;rw[D]at this;exact this
   obtain rfl:eS= .nilIface:=by have:=q.eS;rw[D]at this;exact this
   have S:e=ES.key:=by rw[V.o,I.o];exact LitN.tK
   obtain⟨H,hH⟩:=eZ (ES.hash);have aV:H.length=32:=by rw[hH.o];exact ET.Db.1
   have VC:=aa (by rw[D,hH.o,S];rfl:fM (qh R.c) R.c.gone R.c.c7 R.c.waits.length R.c.id R.c.key=fM true false 1 0 H e);have VS:=aa (by rw[D,hH.o,S];rfl:fM (qh R.s) R.s.gone R.s.c7 R.s.waits.length R.s.id R.s.key=fM true false 1 0 H e);clear D X S lC lS q;refine TC.rz ?_;refine TC.rg [] ?_;refine T.wr 0 WP.o MP.o ((ag _ _).trans B) ?_;refine T.wr 1 WH.o MH.o ((ag _ _).trans ad) ?_;refine T.qc 2 (λt ht l a=>KY.o l a.base) ?_;refine TC.rg [] ?_;refine T.rk 14 (v:= .agg (fM true false 1 0 H e)) (λW _ n=>VC.o▸n.c.vars) ?_;refine T.fc 15 0 FJ ?_;refine T.rk 19 (v:= .agg (fM true false 1 0 H e)) (λW _ n=>VS.o▸n.s.vars) ?_;refine T.fr 20 5 FJ ?_;refine T.wr 21 WP.o MP.o ((ag _ _).trans B) ?_;exact TE.rv (v:= .bool true) λW a=>⟨rfl,A.Jw.trans (a.base.below A.Jw.size A.lo)⟩
  .have e1:decide (j=e)=false:=by simpa using λh=>ao h.symm
   obtain⟨pc,rfl⟩:=aaA q.eC O;obtain⟨ps,rfl⟩:=aaA q.eS Q;obtain rfl:a2=0:=by have:=lC;rw[aC]at this;exact this
   obtain rfl:c2=0:=by have:=lS;rw[aE]at this;exact this
   have i1:R.c.id.length=32:=q.c.ok.id.1;have i2:R.c.key.length=32:=q.c.ok.key.1;have i3:R.s.id.length=32:=q.s.ok.id.1;have i4:R.s.key.length=32:=q.s.ok.key.1;have aF:=aa O;have aK:=aa Q;have VC:=aa (by rw[ax,aB]:fM (qh R.c) R.c.gone R.c.c7 R.c.waits.length R.c.id R.c.key=fM (qh R.c) true 0 R.c.waits.length R.c.id R.c.key);have VS:=aa (by rw[az]:fM (qh R.s) R.s.gone R.s.c7 R.s.waits.length R.s.id R.s.key=fM (qh R.s) true R.s.c7 R.s.waits.length R.s.id R.s.key);clear ao ax az aB aC aE O Q lC lS q;refine TC.rz ?_;refine TC.rg [] ?_;refine T.wr 0 WP.o MP.o ((ag _ _).trans B) ?_;refine T.wr 1 WH.o MH.o ((ag _ _).trans ad) ?_;refine T.qc 2 (λt ht l a=>KY.o l a.base) ?_;refine TC.rg [] ?_;refine T.rk 4 (v:= .int .i64 14) (λW U n=>(BS.code (k:=13) an (ER.o W U) ((YA n.eC aF.o).at_.isK an (ER.o W U))).mono λr l ⟨h1,h2⟩=>⟨h1,h2▸aw _ _⟩) ?_;refine T.rk 11 (v:= .string ⟨#[115,101,115,115,105,111,110]⟩) (λW U n=>by obtain⟨v,hv,_⟩:=YA n.eC aF.o;exact Ja pc _ v W hv (AT.o W U)) ?_;refine T.rk 19 (v:= .int .i64 18) (λW U n=>(BS.code (k:=17) an (ER.o W U) ((YA n.eS aK.o).at_.isK an (ER.o W U))).mono λr l ⟨h1,h2⟩=>⟨h1,h2▸aw _ _⟩) ?_;refine T.rk 24 (v:= .agg (fM (qh R.c) true 0 R.c.waits.length R.c.id R.c.key)) (λW _ n=>VC.o▸n.c.vars) ?_;refine T.fc 25 1 FJ ?_;refine T.rk 29 (v:= .agg (fM (qh R.s) true R.s.c7 R.s.waits.length R.s.id R.s.key)) (λW _ n=>VS.o▸n.s.vars) ?_;refine T.fc 30 1 FJ ?_;refine T.rk 34 (v:= .agg (fM (qh R.c) true 0 R.c.waits.length R.c.id R.c.key)) (λW _ n=>VC.o▸n.c.vars) ?_;refine T.fc 35 2 FJ ?_;exact TE.rv (v:= .bool true) λW a=>⟨rfl,A.Jw.trans (a.base.below A.Jw.size A.lo)⟩
end Go.Proofs.P
