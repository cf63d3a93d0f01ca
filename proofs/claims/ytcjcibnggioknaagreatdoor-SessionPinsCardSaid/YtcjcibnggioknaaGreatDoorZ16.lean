/- Lemmas on which SessionPins rests. -/
import Derived.Test.YtcjcibnggioknaaGreatDoorZ15
set_option maxRecDepth 100000
set_option maxHeartbeats 40000000
set_option linter.unusedVariables false
open Go.RowKit Go.Spk
open Go.Proofs.Tryz
namespace Go.Spk
theorem j5.aaf{w a:ay}{g:Nat}(h:j5 w.heap.size g w a):ci [g] w a:=⟨h.os,h.tape,h.output,h.size,λi b c=>h.block i b (λe=>c (by simp[e]))⟩
end Go.Spk
namespace Go.Proofs.P
theorem qR{W}{g}{st}(h:kL 244 [2] [(iV.row st).toList] W.heap[g]?):jF W g st:=by
 have:=h.2;simpa[jF,Whole]using this
theorem tI{W}{g}{a}(h:jF W g a):kL 244 [2] [(iV.row a).toList] W.heap[g]?:=⟨by cases a<;>rfl,by simpa[jF,Whole]using h⟩
def CY(E:Nat->Addr)(B:Nat)(r:de ⊕ Nat)(e:Ending)(w:World):Prop:=match r with
 | .inl m=> ∃a b c d,e= .returned (.tuple #[.agg (dP m.kind a b c d),.nilIface])/\mV (B<= ·) w a b c d m
 | .inr k=>e= .returned (.tuple #[.agg #[.int .i64 0,.slice none 0 0,.slice none 0 0,.slice none 0 0,.slice none 0 0],bM (E k)])
theorem EW{E}{B b}{R}{a}{e}{w}(h:R= .inr b/\E b=a)(he:e= .returned (.tuple #[.agg #[.int .i64 0,.slice none 0 0,.slice none 0 0,.slice none 0 0,.slice none 0 0],bM a])):CY E B R e w:=by
 rw[h.1];show e= .returned (.tuple #[.agg #[.int .i64 0,.slice none 0 0,.slice none 0 0,.slice none 0 0,.slice none 0 0],bM (E b)]);rw[h.2];exact he
abbrev Zf(S:Nat->Prop)(a:Nat)(b:List Value)(N:List (List ByteArray))(W:World):Prop:=sQ (λk=>S k/\a<=k) W b N
theorem Zf.loc{S}{b}{c}{N}(W a:ay)(h:Zf S b c N W)(d:∀k,S k->a.heap[k]?=W.heap[k]?)(e:W.heap.size<=a.heap.size):Zf S b c N a:=sQ.loc (λk f=>d k f.1) e h
abbrev nmE(S:Nat->Prop)(a:Nat)(b:List Value)(N:List (List ByteArray)):En:=fa S (Zf S a b N) Zf.loc
theorem sQ.snoc{P:Nat->Prop}{w:World}{v:Value}{l:List ByteArray}(hv:iB P w v (l.map Value.string)):∀{vs:List Value} {L:List (List ByteArray)},sQ P w vs L->sQ P w (vs++ [v]) (L++ [l])
 | [],[],_=>⟨hv,trivial⟩
 |_::_,_::_,h=>⟨h.1,sQ.snoc hv h.2⟩
 | [],_::_,h=>h.elim
 |_::_,[],h=>h.elim
theorem sQ.imp{P Q:Nat->Prop}{w:World}(a:∀k,P k->Q k):∀{vs:List Value} {L:List (List ByteArray)},sQ P w vs L->sQ Q w vs L
 | [],[],_=>trivial
 |_::_,_::_,h=>⟨h.1.mono a,sQ.imp a h.2⟩
 | [],_::_,h=>h.elim
 |_::_,[],h=>h.elim
structure PS where
 k:Nat
 v:Int
 st:iV
 m:de
 u:Option Addr×Nat×Nat
 s:Option Addr×Nat×Nat
 n:Option Addr×Nat×Nat
 b:Option Addr×Nat×Nat
 us:List Value
 ss:List Value
 ns:List Value
 bs:List Value
 S:Nat->Prop
structure abI(E:Nat->Addr)(LV t:ByteArray)(k0:Int)(y:PS):Prop where
 k:y.k<=LV.size
 v:y.v=(y.k:Int)
 rd:ny (E 1) (E 3) (E 2) ((bI LV).take y.k) (.ok t,kD k0)=(y.st,y.m)
 ul:y.us.length<=y.k
 sl:y.ss.length<=y.k
 nl:y.ns.length<=y.k
 bl:y.bs.length<=y.k
 lf:y.st.left<=1000000000000
 us:y.us=y.m.U.map λn:Nat=>Value.int .u32 n
 ss:y.ss=y.m.S.map Value.string
 bs:y.bs=y.m.B.map Value.bool
theorem Lw{w W:ay}{v}{l}(h:LO w.heap.size 9 W v l):∃x,v=sl x/\iB (λk=>w.heap.size<=k/\k<W.heap.size) W (sl x) (l.map Value.string):=by
 rcases h with⟨rfl,A,c,rfl⟩|⟨g,rfl,b,a⟩
 .exact⟨(A,0,c),rfl,.inl ⟨rfl,A,c,rfl⟩⟩
 .refine⟨(some ⟨g,0,none⟩,l.length,l.length),rfl,.inr ⟨g,0,l.length,by rw[aM],bj,⟨b,a.inside⟩,a.inside,λj x d=> ?_⟩⟩;rw[aW,a.at_];simpa using d
theorem XL{w W}{s}{us ss a bs}{vu vs vn vb}{S}{m}(h:Hp w [] s W)(b:s[3]?=some (ow 1 w.heap.size 147 vu us))(c:s[4]?=some (ow 2 w.heap.size 9 vs ss))(d:s[5]?=some (ow 3 w.heap.size 33 vn a))(e:s[6]?=some (ow 4 w.heap.size 4 vb bs))(f:s[7]?=some (nmE S w.heap.size a m.N))
 (g:us=m.U.map λn:Nat=>Value.int .u32 n) (i:ss=m.S.map Value.string) (j:bs=m.B.map Value.bool):mV (w.heap.size<= ·) W vu vs vn vb m:=
 ⟨g▸iB.pj (h.en _ (ah b)),i▸iB.pj (h.en _ (ah c)),⟨a,iB.pj (h.en _ (ah d)),sQ.imp (λ_ k=>k.2) (h.en _ (ah f))⟩,j▸iB.pj (h.en _ (ah e))⟩
theorem Kt(b c d:Addr)(a:iV):(gg b c d a).2.left<=a.left:=by
 have h:=vR b c 4096 a;unfold gg;dsimp only
 split
 .exact h
 .split
  .exact h
  .refine Nat.le_trans ?_ h;cases (fh b c 4096 a).2<;>exact Nat.zero_le _
theorem Fo(E:gn)(s:bB)(hs:s.size<=32768)(w:ay)(en:Env w E)(hw:30<=w.heap.size):
 Calls prog 114 #[.string s] w λr w'=>CY E w.heap.size (fk s) r w'/\Below w.heap.size w w':=by
 have K:=Io E s;obtain⟨R,hR⟩:=eZ (fk s);have aR:∀m,R= .inl m->Cb m:=λm hm=>yp hs (hR.o▸hm);rw[<-hR.o]at K⊢;obtain⟨k0,ax,al⟩:∃k e,eT (E 1) 1 (.ok s)=(k,e):=⟨_,_,rfl⟩;have az:=uE (E 1) 1 (.ok s);have aV:=oD (E 1) 1 (.ok s);rw[show(gj (E 1) 1 (.ok s)).2=ax from congrArg Prod.snd al,show(iV.ok s).left=s.size from rfl]at aV;unfold rh at K;rw[al]at K az;dsimp only at K az;have i1: -9223372036854775808<=k0:=af;have i2:k0<9223372036854775808:=af;have aS:=aa al;have er:∀W,Hid (Below w.heap.size w W->ts W E):=λW=>aa λh=>en.gY.below h;obtain⟨mx,aB⟩:=en.max;have cM:∀W,Hid (Below w.heap.size w W->W.cell? ⟨24,0,none⟩=some (.int .i64 mx)):=λW=>aa λh=>(h.cell (block_lt_of_cell aB)).trans aB;have EN:=aa en;have ao:=aa K;clear K al az en aB;refine TC.enter func114 ntmps114 [] [] (Hp.nil _ _) ?_;refine T.one 0 (TO.J (z:=5) λgr=> ?_);refine T.one 1 (TO.cp (λW d=>(sM s W).mono λr L ⟨j,f⟩=>⟨j,f▸Whole.made W _ _,f▸(Below.refl _ W).alloc (Nat.le_refl _) _⟩) λM=> ?_);refine T.one 1 (TO.cb 1 [(iV.row ax).toList] (λW d=>(GU M (.ok s) (E 1) W (qR (d.en _ (List.mem_of_getElem? (i:=1) rfl))) (((er W).out d.below).var 1 an)).mono λr L ⟨j,f,A⟩=>⟨j.trans (by rw[aS.o]),tI (by rw[aS.o]at f;exact f),A.aaf⟩) ?_);refine T.one 4 (TO.J (z:=5) λgm=> ?_);cases ax with
 |bad a=>
  obtain⟨Y,Z⟩:∃Y,Hid (R= .inr Y/\E Y=a):=by
   have h:=ao.o;cases R with
   |inl m=>cases h
   |inr k=>injection h with h;exact⟨k,aa ⟨rfl,h.symm⟩⟩
  refine T.one 1 (TO.qk (v:= .iface 356 (.pointer (some a))) (λW d=>(Mp M (.bad a) W (qR (d.en _ (List.mem_of_getElem? (i:=1) rfl)))).mono λr L ⟨j,f⟩=>⟨j,f▸Below.refl _ _⟩) ?_);refine TE.TF ?_;exact λW d=>⟨EW Z.o rfl,d.below⟩
 |ok t=>
  refine T.one 1 (TO.qk (v:= .nilIface) (λW d=>(Mp M (.ok t) W (qR (d.en _ (List.mem_of_getElem? (i:=1) rfl)))).mono λr L ⟨j,f⟩=>⟨j,f▸Below.refl _ _⟩) ?_);cases hf:dh k0 with
  |none=>
   obtain⟨Y,Z⟩:∃Y,Hid (R= .inr Y/\E Y=E 19):=by
    have h:=ao.o;rw[hf]at h;cases R with
    |inl m=>cases h
    |inr k=>injection h with h;exact⟨k,aa ⟨rfl,h.symm⟩⟩
   have hf:=aa hf;refine T.one 2 (TO.qk (v:= .tuple #[.string (Cx k0),.bool false]) (λW d=>by have:=wC k0 W (EN.o.rows.below d.below);rw[hf.o]at this;exact this) ?_);refine TC.rg [100000] ?_;refine T.lw 1 _ (EN.o.gY.var 19 an) List.not_mem_nil ?_;refine TE.TF ?_;exact λW d=>⟨EW Z.o rfl,d.below⟩
  |some o=>
   have HL:=aa (nt hf);have aY:=ra hf;have H:=ao.o;rw[hf]at H;dsimp only at H;have HP:=aa H;have hf:=aa hf;clear H ao;refine T.one 2 (TO.qk (v:= .tuple #[.string o,.bool true]) (λW d=>by have:=wC k0 W (EN.o.rows.below d.below);unfold Cx at this;rw[hf.o]at this;exact this) ?_);refine TC.split 2 [1,1,1,1,1] [[.int .i64 k0],[.slice none 0 0],[.slice none 0 0],[.slice none 0 0],[.slice none 0 0]] ?_;refine TC.own 1 147 ?_;refine TC.own 2 9 ?_;refine TC.own 3 33 ?_;refine TC.own 4 4 ?_;refine TC.fct (λ_=>False) (Zf (λ_=>False) w.heap.size [] []) Zf.loc (λ_ h=>h) (λ_=>trivial) ?_;refine TC.inv (ι:=PS) [(9,9),(36,98)] (λy=> [(36,.int .i64 y.v)]) (λy s=>(((((((s.set 1 (bl 101 M true (kL 244 [2]) [(iV.row y.st).toList])).set 2 (bl 104 gm true (kL 106 [1,1,1,1,1]) [[.int .i64 y.m.kind],[sl y.u],[sl y.s],[sl y.n],[sl y.b]])).set 3 (ow 1 w.heap.size 147 (sl y.u) y.us)).set 4 (ow 2 w.heap.size 9 (sl y.s) y.ss)).set 5 (ow 3 w.heap.size 33 (sl y.n) y.ns)).set 6 (ow 4 w.heap.size 4 (sl y.b) y.bs)).set 7 (nmE y.S w.heap.size y.ns y.m.N))) (abI E o t k0) (λy=>o.size -y.k) ⟨0,0,.ok t,kD k0,(none,0,0),(none,0,0),(none,0,0),(none,0,0),[],[],[],[],λ_=>False⟩ ⟨Nat.zero_le _,rfl,rfl,Nat.le_refl _,Nat.le_refl _,Nat.le_refl _,Nat.le_refl _,by show(iV.ok t).left<=_;omega,rfl,rfl,rfl⟩ ?_;intro R' ⟨k,v,e,m,xu,xs,xn,xb,us,ss,ns,bs,S⟩ hC hR l C;obtain⟨hk,hv,aC,O,av,P,Q,aE,aF,aG,aK⟩:=hC;dsimp only at hk hv aC O av P Q aE aF aG aK C;subst hv;have D:=aa aF;have F:=aa aG;have G:=aa aK;have I:=aa aE;have aU:=aa aC;clear aF aG aK aE aC
   by_cases J:k<o.size
   .have ii:(k:Int)<o.size:=af;have i3: -9223372036854775808<=(k:Int)+1:=af;have i4:(k:Int)+1<9223372036854775808:=af;have aP:=Dc o k J;have V:Hid (∀c m',Ld (E 1) (E 3) (E 2) ((o[k].toNat:Nat):Int) (e,m)=(c,m')->ny (E 1) (E 3) (E 2) ((bI o).take (k+1)) (.ok t,kD k0)=(c,m')):=aa λc m' h=>by rw[FI aP,Lc,aU.o,h]
    have hL:=HL.o _ (List.mem_of_getElem? aP);clear aP
    ((repeat (first|(have x:=Jm.hk C;clear C;obtain⟨_,rfl,C⟩:=x)|(have x:=Jm.ha C;clear C;obtain⟨_,_,rfl,C⟩:=x)));(have x:=Jm.hn C;clear C;subst x))
    rcases hL with hc|hc|hc|hc|hc|hc
    .obtain⟨n,c,g⟩:∃(n:Nat) (c:iV),Hid (eT (E 1) 4 e=((n:Int),c)):=⟨(eT (E 1) 4 e).1.toNat,(eT (E 1) 4 e).2,aa (by rw[Int.toNat_of_nonneg (uE (E 1) 4 e).1])⟩;refine go ?_;refine TC.rg [80104001,40101000] ?_;refine T.one 3 (TO.cb (v:= .int .u32 n) 1 [(iV.row c).toList] (λW d=>(zR M e (E 1) W (qR (d.en _ (List.mem_of_getElem? (i:=1) rfl))) (((er W).out d.below).var 1 an)).mono λr L ⟨j,f,A⟩=>⟨j.trans (by rw[g.out]),tI (by rw[g.out]at f;exact f),A.aaf⟩) ?_);refine T.one 4 (TO.news (z:=1) λbq=> ?_);refine T.one 5 (TO.app 3 8 λx'=> ?_);exact hR ⟨k+1,(k:Int)+1,c,{m with U:=m.U++ [n]},x',xs,xn,xb,us++ [.int .u32 n],ss,ns,bs,S⟩ _ _ ⟨J,rfl,V.o _ _ (by rw[hc];show((eT (E 1) 4 e).2,{m with U:=m.U++ [(eT (E 1) 4 e).1.toNat]})=_;rw[g.out];rfl),by simp;omega,Nat.le_succ_of_le av,Nat.le_succ_of_le P,Nat.le_succ_of_le Q,by have:=oD (E 1) 4 e;rw[show(gj (E 1) 4 e).2=c from congrArg Prod.snd g.out]at this;exact Nat.le_trans this I.o,by simp[D.o],F.o,G.o⟩ (by show o.size -(k+1)<o.size -k;omega) (by((repeat (first|apply Jm.known|apply Jm.any));exact Jm.nil)) ⟨_,rfl⟩
    .obtain⟨n,c,g⟩:∃(n:Bool) (c:iV),Hid (decide ((eT (E 1) 1 e).1≠0)=n/\(eT (E 1) 1 e).2=c):=⟨_,_,aa ⟨rfl,rfl⟩⟩;refine go ?_;refine TC.rg [80104004,40101000] ?_;refine T.one 3 (TO.cb (v:= .bool n) 1 [(iV.row c).toList] (λW d=>(Q7 M e (E 1) W (qR (d.en _ (List.mem_of_getElem? (i:=1) rfl))) (((er W).out d.below).var 1 an)).mono λr L ⟨j,f,A⟩=>⟨j.trans (by rw[g.out.1]),tI (by rw[g.out.2]at f;exact f),A.aaf⟩) ?_);refine T.one 4 (TO.news (z:=1) λbq=> ?_);refine T.one 5 (TO.app 6 8 λx'=> ?_);exact hR ⟨k+1,(k:Int)+1,c,{m with B:=m.B++ [n]},xu,xs,xn,x',us,ss,ns,bs++ [.bool n],S⟩ _ _ ⟨J,rfl,V.o _ _ (by rw[hc];show((eT (E 1) 1 e).2,{m with B:=m.B++ [decide ((eT (E 1) 1 e).1≠0)]})=_;rw[g.out.1,g.out.2]),Nat.le_succ_of_le O,Nat.le_succ_of_le av,Nat.le_succ_of_le P,by simp;omega,by have:=oD (E 1) 1 e;rw[show(gj (E 1) 1 e).2=c from g.out.2]at this;exact Nat.le_trans this I.o,D.o,F.o,by simp[G.o]⟩ (by show o.size -(k+1)<o.size -k;omega) (by((repeat (first|apply Jm.known|apply Jm.any));exact Jm.nil)) ⟨_,rfl⟩
    .obtain⟨n,c,g⟩:∃(n:ByteArray) (c:iV),Hid (fh (E 1) (E 3) 32768 e=(n,c)):=⟨_,_,aa rfl⟩;refine go ?_;refine TC.rg [80104002,40101000] ?_;refine T.one 3 (TO.cb (v:= .string n) 1 [(iV.row c).toList] (λW d=>(wG M e (E 1) (E 3) 32768 an W (qR (d.en _ (List.mem_of_getElem? (i:=1) rfl))) (((er W).out d.below).var 1 an) (((er W).out d.below).var 3 an) (Nat.le_trans hw (d.ge (p:=1) rfl))).mono λr L ⟨j,f,A⟩=>⟨j.trans (by rw[g.out]),tI (by rw[g.out]at f;exact f),A.aaf⟩) ?_);refine T.one 4 (TO.news (z:=1) λbq=> ?_);refine T.one 5 (TO.app 4 8 λx'=> ?_);exact hR ⟨k+1,(k:Int)+1,c,{m with S:=m.S++ [n]},xu,x',xn,xb,us,ss++ [.string n],ns,bs,S⟩ _ _ ⟨J,rfl,V.o _ _ (by rw[hc];show((fh (E 1) (E 3) 32768 e).2,{m with S:=m.S++ [(fh (E 1) (E 3) 32768 e).1]})=_;rw[g.out]),Nat.le_succ_of_le O,by simp;omega,Nat.le_succ_of_le P,Nat.le_succ_of_le Q,by have:=vR (E 1) (E 3) 32768 e;rw[g.out]at this;exact Nat.le_trans this I.o,D.o,by simp[F.o],G.o⟩ (by show o.size -(k+1)<o.size -k;omega) (by((repeat (first|apply Jm.known|apply Jm.any));exact Jm.nil)) ⟨_,rfl⟩
    .obtain⟨n,c,g⟩:∃(n:List ByteArray) (c:iV),Hid (gg (E 1) (E 3) (E 2) e=(n,c)):=⟨_,_,aa rfl⟩;refine go ?_;refine TC.rg [80104003,40101000] ?_
     refine T.one 3 (TO.cbf 1 (vf:=sl) [(iV.row c).toList] (pf:=λx lo hi W=>w.heap.size<=lo/\iB (λk=>lo<=k/\k<hi) W (sl x) (n.map Value.string)) (λx lo hi W L h hb hs=>⟨h.1,iB.loc h.2 hb hs⟩) (λW d=>(N6 M e (E 1) (E 3) (E 2) _ W (qR (d.en _ (List.mem_of_getElem? (i:=1) rfl))) (((er W).out d.below).var 1 an) (((er W).out d.below).var 3 an) (((er W).out d.below).var 2 an) ((cM W).out d.below) (Nat.le_trans hw (d.ge (p:=1) rfl))).mono λr L ⟨v,j,f,A,h4⟩=>by
      rw[g.out]at f A;obtain⟨x,rfl,h5⟩:=Lw f;exact⟨x,j,tI A,⟨d.base.size,h5⟩,h4.aaf⟩) λy l0 l1=> ?_)
     refine T.one 4 (TO.news (z:=1) λbq=> ?_);refine T.one 5 (TO.app 5 9 λx'=> ?_);refine TE.sw ?_ λW d=>d.join (p:=7) (q:=8) (e3:=nmE (λk=>S k\/l0<=k/\k<l1) w.heap.size (ns++ [sl y]) (m.N++ [n])) rfl rfl an (λk hk=>hk) (λh=>by cases h) (sQ.snoc ((d.en _ (List.mem_of_getElem? (i:=8) rfl)).2.mono λk hk=>⟨.inr hk,Nat.le_trans (d.en _ (List.mem_of_getElem? (i:=8) rfl)).1 hk.1⟩) (sQ.imp (λk hk=>⟨.inl hk.1,hk.2⟩) (d.en _ (List.mem_of_getElem? (i:=7) rfl))));exact hR ⟨k+1,(k:Int)+1,c,{m with N:=m.N++ [n]},xu,xs,x',xb,us,ss,ns++ [sl y],bs,λk=>S k\/l0<=k/\k<l1⟩ _ _ ⟨J,rfl,V.o _ _ (by rw[hc];show((gg (E 1) (E 3) (E 2) e).2,{m with N:=m.N++ [(gg (E 1) (E 3) (E 2) e).1]})=_;rw[g.out]),Nat.le_succ_of_le O,Nat.le_succ_of_le av,by simp;omega,Nat.le_succ_of_le Q,by have:=Kt (E 1) (E 3) (E 2) e;rw[g.out]at this;exact Nat.le_trans this I.o,D.o,F.o,G.o⟩ (by show o.size -(k+1)<o.size -k;omega) (by((repeat (first|apply Jm.known|apply Jm.any));exact Jm.nil)) ⟨_,rfl⟩
    .obtain⟨n,c,g⟩:∃(n:ByteArray) (c:iV),Hid (gj (E 1) 16 e=(n,c)):=⟨_,_,aa rfl⟩;refine go ?_;refine TC.rg [80104002,40101000] ?_;refine T.one 3 (TO.cb (v:= .string n) 1 [(iV.row c).toList] (λW d=>(uz M e (E 1) 16 an W (qR (d.en _ (List.mem_of_getElem? (i:=1) rfl))) (((er W).out d.below).var 1 an)).mono λr L ⟨j,f,A⟩=>⟨j.trans (by rw[g.out]),tI (by rw[g.out]at f;exact f),ci.bZ A⟩) ?_);refine T.one 4 (TO.news (z:=1) λbq=> ?_);refine T.one 5 (TO.app 4 8 λx'=> ?_);exact hR ⟨k+1,(k:Int)+1,c,{m with S:=m.S++ [n]},xu,x',xn,xb,us,ss++ [.string n],ns,bs,S⟩ _ _ ⟨J,rfl,V.o _ _ (by rw[hc];show((gj (E 1) 16 e).2,{m with S:=m.S++ [(gj (E 1) 16 e).1]})=_;rw[g.out]),Nat.le_succ_of_le O,by simp;omega,Nat.le_succ_of_le P,Nat.le_succ_of_le Q,by have:=oD (E 1) 16 e;rw[g.out]at this;exact Nat.le_trans this I.o,D.o,by simp[F.o],G.o⟩ (by show o.size -(k+1)<o.size -k;omega) (by((repeat (first|apply Jm.known|apply Jm.any));exact Jm.nil)) ⟨_,rfl⟩
    .obtain⟨n,c,g⟩:∃(n:ByteArray) (c:iV),Hid (gj (E 1) e.left e=(n,c)):=⟨_,_,aa rfl⟩;refine go ?_;refine TC.rg [100104002,60101000] ?_;refine T.one 4 (TO.qk (v:= .int .i64 e.left) (λW d=>(Q8 M e W (qR (d.en _ (List.mem_of_getElem? (i:=1) rfl)))).mono λr L ⟨j,f⟩=>⟨j,f▸Below.refl _ _⟩) ?_);refine T.one 5 (TO.cb (v:= .string n) 1 [(iV.row c).toList] (λW d=>(uz M e (E 1) e.left I.o W (qR (d.en _ (List.mem_of_getElem? (i:=1) rfl))) (((er W).out d.below).var 1 an)).mono λr L ⟨j,f,A⟩=>⟨j.trans (by rw[g.out]),tI (by rw[g.out]at f;exact f),ci.bZ A⟩) ?_);refine T.one 6 (TO.news (z:=1) λbq=> ?_);refine T.one 7 (TO.app 4 8 λx'=> ?_);exact hR ⟨k+1,(k:Int)+1,c,{m with S:=m.S++ [n]},xu,x',xn,xb,us,ss++ [.string n],ns,bs,S⟩ _ _ ⟨J,rfl,V.o _ _ (by rw[hc];show((gj (E 1) e.left e).2,{m with S:=m.S++ [(gj (E 1) e.left e).1]})=_;rw[g.out]),Nat.le_succ_of_le O,by simp;omega,Nat.le_succ_of_le P,Nat.le_succ_of_le Q,by have:=oD (E 1) e.left e;rw[g.out]at this;exact Nat.le_trans this I.o,D.o,by simp[F.o],G.o⟩ (by show o.size -(k+1)<o.size -k;omega) (by((repeat (first|apply Jm.known|apply Jm.any));exact Jm.nil)) ⟨_,rfl⟩
   .obtain rfl:k=o.size:=af;have ii:¬(o.size:Int)<o.size:=af
    have ab:ny (E 1) (E 3) (E 2) (bI o) (.ok t,kD k0)=(e,m):=by
     have h:=aU.o;rwa[List.take_of_length_le (by rw[aj];exact Nat.le_refl _)]at h
    have H:=HP.o;rw[ab]at H;dsimp only at H
    ((repeat (first|(have x:=Jm.hk C;clear C;obtain⟨_,rfl,C⟩:=x)|(have x:=Jm.ha C;clear C;obtain⟨_,_,rfl,C⟩:=x)));(have x:=Jm.hn C;clear C;subst x))
    cases X:wy (E 2) e with
    |bad a=>
     obtain⟨Y,Z⟩:∃Y,Hid (R= .inr Y/\E Y=a):=by
      rw[X]at H;cases R with
      |inl m=>cases H
      |inr k=>injection H with h;exact⟨k,aa ⟨rfl,h.symm⟩⟩
     have ad:=aa X;clear X H ab;refine go ?_;refine T.one 1 (TO.cb (v:= .iface 356 (.pointer (some a))) 1 [(iV.row (.bad a)).toList] (λW d=>(EY M e (E 2) W (qR (d.en _ (List.mem_of_getElem? (i:=1) rfl))) (((er W).out d.below).var 2 an)).mono λr L ⟨j,f,A⟩=>⟨j.trans (by rw[ad.o];rfl),tI (by rw[ad.o]at f;exact f),A.aaf⟩) ?_);refine TE.TF ?_;exact λW d=>⟨EW Z.o rfl,d.below⟩
    |ok u=>
     obtain rfl:R= .inl m:=by
      rw[X]at H;cases R with
      |inl m2=>injection H with h;rw[h]
      |inr k=>cases H
     have ad:=aa X;have aX:=aa (aR m rfl);clear X H ab aR;refine go ?_;refine T.one 1 (TO.cb (v:= .nilIface) 1 [(iV.row (.ok u)).toList] (λW d=>(EY M e (E 2) W (qR (d.en _ (List.mem_of_getElem? (i:=1) rfl))) (((er W).out d.below).var 2 an)).mono λr L ⟨j,f,A⟩=>⟨j.trans (by rw[ad.o];rfl),tI (by rw[ad.o]at f;exact f),A.aaf⟩) ?_);refine T.qm 0 2 5 (.agg (dP m.kind (sl xu) (sl xs) (sl xn) (sl xb))) ?_;refine T.one 1 (TO.qk (v:= .nilIface) (λW d=>zK W.heap.size _ _ _ _ m aX.o W (XL d rfl rfl rfl rfl rfl D.o F.o G.o).at_ (Nat.le_refl _) (EN.o.rows.below d.below)) ?_);refine T.qm 0 2 5 (.agg #[.int .i64 m.kind,sl xu,sl xs,sl xn,sl xb]) ?_;refine TE.TF ?_;exact λW d=>⟨⟨_,_,_,_,rfl,XL d rfl rfl rfl rfl rfl D.o F.o G.o⟩,d.below⟩
theorem kh(E:gn)(s:bB)(d:s.size<=32768)(w:ay)(e:Env w E)(f:30<=w.heap.size):
 Calls prog 114 #[.string s] w λr b=>Pu E w.heap.size (fk s) r b/\Below w.heap.size w b:=by
 refine(Fo E s d w e f).mono ?_;rintro r b ⟨a,g⟩;refine⟨?_,g⟩;cases c:fk s with
 |inl m=>rw[c]at a;exact a
 |inr k=>rw[c]at a;exact⟨_,a⟩
end Go.Proofs.P
