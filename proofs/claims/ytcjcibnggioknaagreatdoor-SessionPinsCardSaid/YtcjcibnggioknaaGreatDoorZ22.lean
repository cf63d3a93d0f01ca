/- Lemmas on which SessionPins rests. -/
import Derived.Test.YtcjcibnggioknaaGreatDoorZ16
import Derived.Test.YtcjcibnggioknaaGreatDoorZ19
set_option maxRecDepth 100000
set_option maxHeartbeats 40000000
set_option linter.unusedVariables false
open Go.RowKit Go.Spk
open Go.Proofs.Tryz
namespace Go.Spk
section
variable {P:Program}{dr:Bool}{ops:Array Oper}{w W W':World}{M X:List Nat}{Q:Exit->Act->World->Prop}{f n n' i j g:Nat}{l:Array Bool}{a a':Act}{v:Value}{m:Bool}{s s' t:List En}{c:Code}{o:Oper}
theorem TE.SD{fn:Func}{R:Ending->World->Prop}{e:Exit}(h:∀W,Hp w M s W->R (.returned v) W)(he:e= .ret\/e= .normal:=by first|exact .inl rfl|exact .inr rfl)(b:a.defers= []:=by rfl)(c:∀W,(results fn a.tmps).run P W= .ok v W:=by(intro W;exact(results_tmp3 rfl _ _ _).trans rfl)):TE w M (bodyPost P fn R) e a s:=TE.rt h he b c
theorem Hp.ED{t:List En}{W:ay}{dr:Bool}{X:iT}(h:Hp w M t W)(hl:leq dr X s t){p j g a:Nat}{m:Bool}{b:fg}{L:iT}{ps:qu}(c:s[p]?=some (bl j g m (kL b L) ps))(d:(dr&&X.contains (j*1000+(loc L a).1))=false)(hv:Go.Spk.lk L ps a=some v):W.cell? ⟨g,a,none⟩=some v:=by
 obtain⟨k,e,f,i⟩:=h.yj hl c;exact e.lk f (by unfold Go.Spk.lk at hv⊢;rw[i _ d];exact hv)
theorem TO.Yh{u:iT}{K:Act->List En->Prop}{ι:Type}{G:ι->Nat->Nat->Prop}{vf:ι->Value}{pf:ι->Nat->Nat->World->Prop}{v:FuncId}{args:gJ}{A:ι->Act}{B:ι->Nat->Nat->List En}{j g:Nat}{f:fg}{L:iT}{ps:qu}(p:Nat)(qs:ι->List (List Value))(hl:∀x c b W W',pf x c b W->(∀k,c<=k/\k<b->W'.heap[k]?=W.heap[k]?)->W.heap.size<=W'.heap.size->pf x c b W')
 (E:∀W,Hp w M s W->Calls P v args W λr W'=> ∃x,r= .returned (vf x)/\kL f L (qs x) W'.heap[g]?/\pf x W.heap.size W'.heap.size W'/\ci [g] W W') (h:∀x c b,G x c b) (i:s[p]?=some (bl j g true (kL f L) ps):=by rfl) (b:ops[n]?=some o:=by rfl) (F:ip P dr ops l u=true:=by decide+kernel) (H:Region.wanted o (yielded ops a.tmps)=true:=by rfl) (q:gu P o=false:=by rfl)
 (I:∀W,(execOp a.eval o).run P W= .ok (.enter v args) W:=by(intro W;go_simp;first|done|rfl)) (J:∀x,dr=true->er (xo X n) j (qs x)=er (xo X n) j ps:=by first|(intro _ h;cases h;done)|(intro _ _;kernel_rfl)) (N:∀x,a.put o.dst (vf x)=A x:=by(intro x;go_simp;first|done|rfl)) (O:∀x c b,s.set p (bl j g true (kL f L) (qs x))++ [fa (λk=>c<=k/\k<b) (pf x c b) (λW W'=>hl x c b W W')]=B x c b:=by(intro x c b;simp only[List.set_cons_zero,List.set_cons_succ,List.cons_append,List.nil_append];rfl))
 (hgo:∀x c b,G x c b->K (A x) (B x c b):=by(intro x c b k;refine go ?_;exact k)):TO u P dr ops l w M X n K a s:=by
 refine TO.of b H q F λW t=> ?_;rw[I W];refine(E W t).mono λr W' ⟨x,Q,R,S,C⟩=> ?_;have hF:=Fr.oE i rfl (qs x) C;refine⟨_,s.set p (bl j g true (kL f L) (qs x))++ [fa (λk=>W.heap.size<=k/\k<W'.heap.size) (pf x W.heap.size W'.heap.size) (λV U=>hl x _ _ V U)],Q,λY=>(Cw.oE i (J x) Y).trans (uO.push _),(t.oE i rfl rfl (qs x) C R).more (λh=>by cases h) (λk m=>m.2) (λy Z k D h6=> ?_) S,⟨λ_=>⟨hF.et,hF.size,λe d k m=> ?_⟩⟩,?_⟩
 .obtain⟨z,hz,e1,_⟩:=xh i Z;rw[e1]at D;exact absurd (t.ins z hz k D) (Nat.not_lt.2 h6.1)
 .rcases bT.1 d with d|d
  .exact hF.new e d k m
  .obtain rfl:=ar.1 d;exact .inr m.1
 .show K (a.put o.dst (vf x)) _;rw[N,O];exact hgo x _ _ (h x _ _)
end
end Go.Spk
namespace Go.Proofs.P
structure ju(s:aX):Prop where
 rs:s.rs.size<=1000000
 rn:s.rn<=1000000000
 ok:bC s
 gone:s.gone=false
def dD(s:aX):Int×Bool×List Int×List Int:=px s.rb s.rk s.rn (bI s.rs)
def gM(s:aX):aX:={s with rn:=s.rn+1,rs:=strOfNums (dD s).2.2.2}
section
variable {E:Nat->Addr}{w0 w:World}{g gh:Nat}{vw re e:Value}{s:aX}
theorem ZD(b:bC s)(h:cP w g gh vw re e s):Sub ((eY gh vw re e s).take 12).flatten.toArray ((eY gh vw re e s).drop (12+5)).flatten.toArray w g 77 (dU s.rn s.rb s.rk++ #[.string s.rs,re])/\((eY gh vw re e s).take 12).flatten.toArray.size=105:=by
 have a:=Lay.sub h 12 5;have c:=wZ (i:=12) (o:=105) (iQ (gh:=gh) (vw:=vw) (re:=re) (e:=e) b) an
 have d:((eY gh vw re e s).drop 12 |>.take 5).flatten.toArray=dU s.rn s.rb s.rk++ #[.string s.rs,re]:=by
  rw[fJ];show([Value.int .u64 s.rn]++([Value.bool s.rb]++(s.rk.map (Value.int .u8)++([Value.string s.rs]++([re]++ []))))).toArray=_;simp
 rw[d]at a;exact⟨a,c⟩
theorem Wi(c:bC s)(h:cP w g gh vw .nilIface e s)(x:bB)(f:s.rs.size+x.size<=1000000000):
 Calls prog 80 #[.pointer (some ⟨g,105,none⟩),.string x] w λr a=>r= .returned (.tuple #[])/\cP a g gh vw .nilIface e {s with rs:=s.rs++x}/\w.grownBy a (some g):=by
 have b:s.rs.size+x.size<=9223372036854775807:=af;refine TC.enter func80 ntmps80 _ _ (h.hp c) ?_;refine T.qv 5 (.string (s.rs++x)) ?_;refine TE.rt λW d=>⟨rfl,d.uT ?_⟩
 kernel_rfl
theorem Wh(l:bC s)(h:cP w g gh vw re e s)(t:fg)(v:cH):
 Calls prog 111 #[.pointer (some ⟨g,105,none⟩),.iface t v] w λr d=> ∃p,r= .returned (.tuple #[.string ⟨#[]⟩,.bool false,dl p])/\cP d g gh vw (dl p) e {s with rs:=⟨#[]⟩}/\w.grownBy d (some g)/\w.heap.size<=p/\Whole d p 86 #[.string zX,.iface t v]:=by
 refine TC.enter func111 ntmps111 _ _ (h.hp l) ?_;refine T.one 3 (TO.cf (vf:=dl) (p:=λx j k W=>w.heap.size<=x/\(j<=x/\x<k)/\Whole W x 86 #[.string zX,.iface t v]) (λx j k W W' ⟨f,a,b⟩ m _=>⟨f,a,(m x a).trans b⟩) (λW c=>(oF zX _ _ W).mono λr W' ⟨f,a⟩=>⟨W.heap.size,f,⟨c.base.size,⟨ak _,a▸(Whole.made W _ _).inside⟩,a▸Whole.made W _ _⟩,a▸(aw W.heap.size W).alloc (ak _) _⟩) λp n o=> ?_);refine TC.rg [] ?_;refine TE.SD λW c=>⟨p,rfl,?_⟩;have a:=c.uT (gh:=gh) (vw:=vw) (re:=dl p) (e:=e) (s:={s with rs:=⟨#[]⟩}) al;have b:=c.en _ (ah (i:=1) rfl);exact⟨a.1,a.2,b.1,b.2.2⟩
def CV(E:Nat->Addr)(g gh:Nat)(vw e:Value)(s:aX)(w:World)(q:Int×Bool×List Int×List Int)(r:Ending)(a:World):Prop:=
 if q.1=0 then r= .returned (.tuple #[.string (if q.2.1 then strOfNums q.2.2.1 else⟨#[]⟩),.bool q.2.1,.nilIface])/\cP a g gh vw .nilIface e (if q.2.1 then{s with rn:=s.rn+1,rs:=strOfNums q.2.2.2}else s)/\w.grownBy a (some g)
 else∃p,r= .returned (.tuple #[.string ⟨#[]⟩,.bool false,dl p])/\cP a g gh vw (dl p) e {s with rs:=⟨#[]⟩}/\w.grownBy a (some g)/\w.heap.size<=p/\mH E a (q.1 -1).toNat (dl p)
theorem VM(a:Addr){s:bB}(h:4<=s.size):(eT a 4 (.ok s)).1=((q9 (bI s):Nat):Int):=by
 unfold eT;rw[qV h,<-(Ho s).1];dsimp only;rw[show(s.extract 0 4).size=4 by simp;omega,show bI (s.extract 0 4)=(bI s).take 4 by rw[oh];rfl];simp[ph,ix,List.getD_eq_getElem?_getD]
abbrev Pe(E:Nat->Addr)(w:World)(k:Nat)(p a b:Nat)(W:World):Prop:=w.heap.size<=p/\(a<=p/\p<b)/\Whole W p 86 #[.string zX,bM (E k)]
theorem Pe.loc{k:Nat}(p a b:Nat)(W W':ay)(h:Pe E w k p a b W)(c:∀k,a<=k/\k<b->W'.heap[k]?=W.heap[k]?)(_:W.heap.size<=W'.heap.size):Pe E w k p a b W':=⟨h.1,h.2.1,(c p h.2.1).trans h.2.2⟩
theorem vz{r:List En}{W:ay}(k:Nat)(a:bC s)(b:Hp w [g] (sE g gh vw re e s::r) W):Calls prog 111 #[.pointer (some ⟨g,105,none⟩),.iface 356 (.pointer (some (E k)))] W λr W'=> ∃p,r= .returned (.tuple #[.string ⟨#[]⟩,.bool false,dl p])/\kL 77 FA (eY gh vw (dl p) e {s with rs:=⟨#[]⟩}) W'.heap[g]?/\Pe E w k p W.heap.size W'.heap.size W'/\ci [g] W W':=
 (Wh a (eF b) _ _).mono λr W' ⟨p,f,h,i,c,d⟩=>⟨p,f,⟨iQ (s:={s with rs:=⟨#[]⟩}) {a with},h⟩,⟨ap b.base.size c,⟨c,d.inside⟩,d⟩,ci.bZ i⟩
theorem qe{r:List En}{p b c k:Nat}{q:Int×Bool×List Int×List Int}{W:ay}(a:Hp w [g] (sE g gh vw (dl p) e {s with rs:=⟨#[]⟩}::r) W)(hf:Pe E w k p b c W)(hq:q.1=(k:Int)+1):CV E g gh vw e s w q (.returned (.tuple #[.string ⟨#[]⟩,.bool false,dl p])) W:=by
 unfold CV;rw[aq af];exact⟨p,rfl,eF a,a.base.only,hf.1,.inr ⟨p,_,rfl,by rw[hq,show((k:Int)+1 -1).toNat=k by omega];exact hf.2.2⟩⟩
theorem Fw(cx:Ctx E w0 g w)(d:ju s)(h:cP w g gh vw .nilIface e s):
 Calls prog 82 #[.pointer (some ⟨g,105,none⟩)] w (CV E g gh vw e s w (dD s)):=by
 have vL:bC {s with rs:=⟨#[]⟩}:={d.ok with}
 have P:Hid (∀k,k<=20->Cn k∉ [g]):=aa λk hk=>by
  have al:∀k,k<=20->Cn k<30:=an;have:=al k hk;have:=cx.hg;simp;omega
 obtain⟨R,u⟩:=eZ (dD s);rw[<-u.o]
 by_cases h4:s.rs.size<4
 .have i4:(s.rs.size:Int)<4:=af;refine TC.enter func82 ntmps82 _ _ (h.hp d.ok) ?_;refine TC.rg [] ?_;refine TE.SD λW a=> ?_;rw[u.o,show dD s=(0,false,[],bI s.rs) by unfold dD px;rw[aJ (by rw[aj];exact h4)]];exact⟨rfl,a.uT rfl⟩
 have i4:¬(s.rs.size:Int)<4:=af;obtain⟨m,hm⟩:=eZ (q9 (bI s.rs));obtain⟨st,C⟩:∃st,Hid (eT (E 1) 4 (.ok s.rs)=((m:Int),st)):=⟨_,aa (Prod.ext (by rw[VM _ af,hm.o]) rfl)⟩;have ay:m<4294967296:=by rw[hm.o];exact(Ho s.rs).2
 obtain⟨A,Q⟩:=eZ (m8 s.rb);have az:A<=4:=by rw[Q.o];cases s.rb<;>decide
 obtain⟨L,J⟩:=eZ (se s.rb m);have aB:L<=4+m+16/\4+m<=L:=by rw[J.o];unfold se vQ;split<;>omega
 have a0: -9223372036854775808<=(m:Int):=af;have b0:(m:Int)<9223372036854775808:=af;have a1: -9223372036854775808<=(m:Int)+A:=af;have b1:(m:Int)+A<9223372036854775808:=af;have a2: -9223372036854775808<=(A:Int)*2:=af;have b2:(A:Int)*2<9223372036854775808:=af;have a3: -9223372036854775808<=(A:Int)*2+8:=af;have b3:(A:Int)*2+8<9223372036854775808:=af;have a4: -9223372036854775808<=4+(m:Int):=af;have b4:4+(m:Int)<9223372036854775808:=af;have a5: -9223372036854775808<=4+(m:Int)+16:=af;have b5:4+(m:Int)+16<9223372036854775808:=af;have a6: -9223372036854775808<=(L:Int):=af;have b6:(L:Int)<9223372036854775808:=af
 have K:∀W,Hid (W.cell? ⟨g,106,none⟩=some (.bool s.rb)->Calls prog 112 #[.pointer (some ⟨g,105,none⟩)] W λr W'=>r= .returned (.int .i64 A)/\Below W.heap.size W W'):=λW=>aa λh=>by
  have:=Off.TP (pr:=(List.replicate 105 Value.nilIface).toArray) g s.rb W h;rw[<-Q.o]at this;exact this.mono λr W' ⟨G,y⟩=>⟨G,y▸aw _ _⟩
 have it:((m:Int)+A).tmod 8=((m:Int)+A) %8:=Int.tmod_eq_emod_of_nonneg af;refine TC.enter func82 ntmps82 _ _ (h.hp d.ok) ?_;refine T.one 4 (TO.cp (λW a=>(sM s.rs W).mono λr W' ⟨G,y⟩=>⟨G,y▸Whole.made W _ _,y▸(aw _ W).alloc (ak _) _⟩) λgi=> ?_)
 by_cases h5:33024<m
 .have i5:(33024:Int)<m:=af;refine T.one 5 (TO.cb (v:= .int .u32 m) 1 [(iV.row st).toList] (λW a=>(zR gi (.ok s.rs) (E 1) W (qR (a.en _ (ah (i:=1) rfl))) ((cx.hp a).env.gY.var 1 an)).mono λr W' ⟨G,y,h3⟩=>⟨G.trans (by rw[C.o]),tI (by rw[C.o]at y;exact y),h3.aaf⟩) ?_);refine T.lw 1 _ (cx.env.gY.var 3 an) (P.o _ an) ?_;refine T.one 2 (TO.Yh 0 (λp=>eY gh vw (dl p) e {s with rs:=⟨#[]⟩}) Pe.loc (λW a=>vz 3 d.ok a) λp M N=> ?_);exact TE.SD λW a=>qe a (a.en _ (ah (i:=2) rfl)) (by rw[u.o,show dD s=(4,false,[],[]) by unfold dD px;rw[aq (by rw[aj];exact h4),aJ (by rw[<-hm.o];exact h5)]];rfl)
 have i5:¬(33024:Int)<m:=af
 have S:Hid (∀q,px s.rb s.rk s.rn (bI s.rs)=q↔(if yS s.rb m then(3,false,[],[])else if s.rs.size<L then(0,false,[],bI s.rs)else if na s.rb s.rk s.rn m (bI s.rs)≠0 then(na s.rb s.rk s.rn m (bI s.rs),false,[],[])else if KH (oR s.rb s.rk s.rn m (bI s.rs))then(3,false,[],[])else(0,true,((oR s.rb s.rk s.rn m (bI s.rs)).take ((oR s.rb s.rk s.rn m (bI s.rs)).length -(ix (oR s.rb s.rk s.rn m (bI s.rs)) 0).toNat)).drop 1,(bI s.rs).drop L))=q):=aa λq=>by
  unfold px;rw[aq (by rw[aj];exact h4),<-hm.o,aq h5,<-J.o,aj]
 refine T.one 5 (TO.cb (v:= .int .u32 m) 1 [(iV.row st).toList] (λW a=>(zR gi (.ok s.rs) (E 1) W (qR (a.en _ (ah (i:=1) rfl))) ((cx.hp a).env.gY.var 1 an)).mono λr W' ⟨G,y,h3⟩=>⟨G.trans (by rw[C.o]),tI (by rw[C.o]at y;exact y),h3.aaf⟩) ?_);refine TC.rg [] ?_;refine T.qc 4 (v:= .int .i64 A) (λt U W a=>(K W).out (a.ED U (p:=0) rfl (by decide+kernel) rfl)) ?_
 by_cases f1:m+A<A*2+8
 .have i6:(m:Int)+A<(A:Int)*2+8:=af;have o:Hid (dD s=(3,false,[],[])):=aa ((S.o _).2 (aJ (by unfold yS;rw[<-Q.o];simp[f1])));refine T.qc 9 (v:= .int .i64 A) (λt U W a=>(K W).out (a.ED U (p:=0) rfl (by decide+kernel) rfl)) ?_;refine T.lw 1 _ (cx.env.gY.var 2 an) (P.o _ an) ?_;refine T.one 2 (TO.Yh 0 (λp=>eY gh vw (dl p) e {s with rs:=⟨#[]⟩}) Pe.loc (λW a=>vz 2 d.ok a) λp M N=> ?_);exact TE.SD λW a=>qe a (a.en _ (ah (i:=2) rfl)) (by rw[u.o,o.o];rfl)
 have i6:¬(m:Int)+A<(A:Int)*2+8:=af;refine T.qc 9 (v:= .int .i64 A) (λt U W a=>(K W).out (a.ED U (p:=0) rfl (by decide+kernel) rfl)) ?_
 by_cases f2:(m+A) %8=0
 rotate_left
 .have i7:((((m:Int)+A) %8 !=0)=true):=by rw[bne_iff_ne];omega
  have i8:((((m:Int)+A) %8==0)=false):=by rw[gB];omega
  have i9:¬((m:Int)+A) %8=0:=af;have o:Hid (dD s=(3,false,[],[])):=aa ((S.o _).2 (aJ (by unfold yS;rw[<-Q.o];simp[f2])));refine T.one 4 (TO.qk (v:= .int .i64 A) (λW a=>(K W).out (Lay.lk (eF a) (iQ d.ok) rfl)) ?_);refine T.lw 1 _ (cx.env.gY.var 2 an) (P.o _ an) ?_;refine T.one 2 (TO.Yh 0 (λp=>eY gh vw (dl p) e {s with rs:=⟨#[]⟩}) Pe.loc (λW a=>vz 2 d.ok a) λp M N=> ?_);exact TE.SD λW a=>qe a (a.en _ (ah (i:=2) rfl)) (by rw[u.o,o.o];rfl)
 have i7:((((m:Int)+A) %8 !=0)=false):=by rw[bne_eq_false_iff_eq];omega
 have i8:((((m:Int)+A) %8==0)=true):=by rw[beq_iff_eq];omega
 have i9:((m:Int)+A) %8=0:=af;have H:Hid (yS s.rb m=false):=aa (by unfold yS;rw[<-Q.o];simp[f1,f2]);have V:if s.rb then 4+(m:Int)+16=L else 4+(m:Int)=L:=by rw[J.o];unfold se vQ;split<;>simp
 by_cases hw:s.rs.size<L
 .have ao:(s.rs.size:Int)<L:=af;have o:Hid (dD s=(0,false,[],bI s.rs)):=aa ((S.o _).2 (by rw[aq (by rw[H.o];decide),aJ hw]));cases I:s.rb
  all_goals
   simp only[I,if_true,if_false,Bool.false_eq_true]at V;refine T.one 4 (TO.qk (v:= .int .i64 A) (λW a=>(K W).out (Lay.lk (eF a) (iQ d.ok) rfl)) ?_);refine TE.SD λW a=> ?_;rw[u.o,o.o];exact⟨rfl,a.uT rfl⟩
 have ao:¬(s.rs.size:Int)<L:=af;have aC:(L:Int)<=s.rs.size:=af;have aE:(4:Int)<=L:=af;have aF:(4:Int)<=s.rs.size:=af;have aG:8<=m:=af;have aK:=d.rs;have aP:=d.rn;obtain⟨f,D⟩:=eZ (oR s.rb s.rk s.rn m (bI s.rs));obtain⟨b,hT⟩:=eZ (strOfNums f);have F:Hid (∀z∈f,0<=z/\z<=255):=aa (by rw[D.o];exact PR _ _ _ _ _)
 have O:∀W,Hid (Ctx E w0 g W->cP W g gh vw .nilIface e s-> ∀ev,EP (na s.rb s.rk s.rn m (bI s.rs)) (bM (E 1)) (bM (E 4))=ev->Calls prog 113 #[.pointer (some ⟨g,105,none⟩),.string (s.rs.extract 0 4),.string (s.rs.extract 4 L)] W λr W'=>r= .returned (.tuple #[.string b,ev])/\Below W.heap.size W W'):=λW=>aa λcx h ev he=>by
  obtain⟨k1,k2⟩:=ZD d.ok h;have:=Off.Iw g s.rn s.rb s.rk _ _ (s.rs.extract 0 4) (s.rs.extract 4 L) d.ok.rk.1 d.ok.rk.2 d.rn (by simp;omega) (by simp;omega) (bM (E 1)) (bM (E 4)) W k1 cx.env.pX cx.env.order (cx.env.gY.var 1 an) (cx.env.gY.var 4 an);rw[k2,J.o,Uh,he,<-D.o,<-hT.o,<-J.o]at this;exact this
 have e6:Hid (∀c,na s.rb s.rk s.rn m (bI s.rs)=c->c≠0->dD s=(c,false,[],[])):=aa λc n h0=>(S.o _).2 (by rw[aq (by rw[H.o];decide),aq hw,aJ (by rw[n];exact h0),n]);have l:Hid (na s.rb s.rk s.rn m (bI s.rs)=0->f.length=m):=aa λn=>by rw[D.o];exact Nw _ _ _ _ _ n (by rw[<-J.o];exact hw)
 have r6:Hid (na s.rb s.rk s.rn m (bI s.rs)=0-> ∀x,(if KH f then((3:Int),false,[],[])else(0,true,(f.take (f.length -(ix f 0).toNat)).drop 1,(bI s.rs).drop L))=x->dD s=x):=aa λn x hx=>(S.o _).2 (by rw[aq (by rw[H.o];decide),aq hw,aq (by rw[n];decide),<-D.o,<-hx]);have X:=PQ s.rb s.rk s.rn m (bI s.rs);obtain⟨BC,av⟩:=eZ (na s.rb s.rk s.rn m (bI s.rs));simp only[<-av.o]at O e6 l r6 X;cases I:s.rb
 all_goals
  simp only[I,if_true,if_false,Bool.false_eq_true]at V;refine T.one 4 (TO.qk (v:= .int .i64 A) (λW a=>(K W).out (Lay.lk (eF a) (iQ d.ok) rfl)) ?_);refine TC.rg [] ?_;rcases X with n|n|n
  rotate_left
  .have B:=aa n;clear n;refine T.one 12 (TO.qk (v:= .tuple #[.string b,.iface 356 (.pointer (some (E 1)))]) (λW a=>(O W).out (cx.hp a) (eF a) _ (by rw[B.o];rfl)) ?_);refine T.one 2 (TO.Yh 0 (λp=>eY gh vw (dl p) e {s with rs:=⟨#[]⟩}) Pe.loc (λW a=>vz 1 d.ok a) λp M N=> ?_);exact TE.SD λW a=>qe a (a.en _ (ah (i:=2) rfl)) (by rw[u.o,e6.o _ B.o an];rfl)
  .have B:=aa n;clear n;refine T.one 12 (TO.qk (v:= .tuple #[.string b,.iface 356 (.pointer (some (E 4)))]) (λW a=>(O W).out (cx.hp a) (eF a) _ (by rw[B.o];rfl)) ?_);refine T.one 2 (TO.Yh 0 (λp=>eY gh vw (dl p) e {s with rs:=⟨#[]⟩}) Pe.loc (λW a=>vz 4 d.ok a) λp M N=> ?_);exact TE.SD λW a=>qe a (a.en _ (ah (i:=2) rfl)) (by rw[u.o,e6.o _ B.o an];rfl)
  have l:=l.o n;have Y:b.size=m:=by rw[hT.o,bG,l]
  have aR:(0:Int)<b.size:=af;have aS:0<b.size:=af;have aU:b.size<=33024:=af;have Z:=aa Y;clear Y;obtain⟨q,o⟩:∃q:Nat,Hid ((q:Int)=ix f 0):=⟨(ix f 0).toNat,aa (by have:=cm F.o 0;omega)⟩;have aV:q<=255:=by have:=cm F.o 0;have:=o.o;omega
  have ax:∀h:0<b.size,((b[0]'h).toNat:Int)=(q:Int):=λh=>by rw[<-AV b 0 h,hT.o,cJ F.o,o.o]
  have c1: -9223372036854775808<=(q:Int):=af;have c2:(q:Int)<9223372036854775808:=af;have c3: -9223372036854775808<=(q:Int)+1:=af;have c4:(q:Int)+1<9223372036854775808:=af;have B:=aa n
  have r7:Hid (∀x,(if decide (q<4)||decide (b.size<=q+1)then((3:Int),false,[],[])else(0,true,(f.take (f.length -q)).drop 1,(bI s.rs).drop L))=x->dD s=x):=aa λx hx=>r6.o B.o _ (by
   rw[<-hx];have e1:(ix f 0).toNat=q:=by rw[<-o.o];simp
   have e2:KH f=(decide (q<4)||decide (b.size<=q+1)):=by unfold KH;rw[<-o.o,l,Z.o];congr 1<;>(rw[decide_eq_decide];omega)
   rw[e1,e2])
  have l:=aa l;clear n
  by_cases j1:q<4
  .have j2:(q:Int)<4:=af;have o:Hid (dD s=(3,false,[],[])):=aa (r7.o _ (aJ (by simp[j1])));refine T.one 12 (TO.qk (v:= .tuple #[.string b,.nilIface]) (λW a=>(O W).out (cx.hp a) (eF a) _ (by rw[B.o];rfl)) ?_);refine T.lw 1 _ (cx.env.gY.var 2 an) (P.o _ an) ?_;refine T.one 2 (TO.Yh 0 (λp=>eY gh vw (dl p) e {s with rs:=⟨#[]⟩}) Pe.loc (λW a=>vz 2 d.ok a) λp M N=> ?_);exact TE.SD λW a=>qe a (a.en _ (ah (i:=2) rfl)) (by rw[u.o,o.o];rfl)
  have j2:¬(q:Int)<4:=af
  by_cases j3:b.size<=q+1
  .have j4:(b.size:Int)<=(q:Int)+1:=af;have o:Hid (dD s=(3,false,[],[])):=aa (r7.o _ (aJ (by simp[j3])));refine T.one 12 (TO.qk (v:= .tuple #[.string b,.nilIface]) (λW a=>(O W).out (cx.hp a) (eF a) _ (by rw[B.o];rfl)) ?_);refine T.lw 1 _ (cx.env.gY.var 2 an) (P.o _ an) ?_;refine T.one 2 (TO.Yh 0 (λp=>eY gh vw (dl p) e {s with rs:=⟨#[]⟩}) Pe.loc (λW a=>vz 2 d.ok a) λp M N=> ?_);exact TE.SD λW a=>qe a (a.en _ (ah (i:=2) rfl)) (by rw[u.o,o.o];rfl)
  have j4:¬(b.size:Int)<=(q:Int)+1:=af;obtain⟨j,hj⟩:∃j:Nat,j+q=b.size:=⟨b.size -q,af⟩;have k3:(b.size:Int) -q=j:=af;have k4:(1:Int)<=j:=af;have k5:(j:Int)<=b.size:=af;have k6: -9223372036854775808<=(j:Int):=af;have k7:(j:Int)<9223372036854775808:=af;have u1:0<=(s.rn:Int)+1:=af;have u2:(s.rn:Int)+1<18446744073709551616:=af;have ab:Hid (strOfNums ((f.take (f.length -q)).drop 1)=b.extract 1 j):=aa (by have e1:=Z.o;have e2:=l.o;rw[hT.o,Zm f F.o];congr 3;omega);have ad:Hid (strOfNums ((bI s.rs).drop L)=s.rs.extract L s.rs.size):=aa (by rw[<-gQ,fq]);have HQ:Hid (dD s=(0,true,(f.take (f.length -q)).drop 1,(bI s.rs).drop L)):=aa (r7.o _ (aq (by simp[j1,j3])));refine T.one 12 (TO.qk (v:= .tuple #[.string b,.nilIface]) (λW a=>(O W).out (cx.hp a) (eF a) _ (by rw[B.o];rfl)) ?_);refine TE.SD λW a=> ?_;rw[u.o,HQ.o];refine⟨by rw[<-ab.o];rfl,a.uT ?_⟩;rw[ad.o]
  kernel_rfl
end
end Go.Proofs.P
