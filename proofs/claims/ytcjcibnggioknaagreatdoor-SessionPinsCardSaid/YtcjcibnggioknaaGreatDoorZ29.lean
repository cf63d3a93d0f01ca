/- Lemmas on which SessionPins rests. -/
import Derived.Test.YtcjcibnggioknaaGreatDoorZ22
import Derived.Test.YtcjcibnggioknaaGreatDoorZ26
import Derived.Test.YtcjcibnggioknaaGreatDoorZ27
import Derived.Test.YtcjcibnggioknaaGreatDoorZ28
set_option maxRecDepth 100000
set_option maxHeartbeats 40000000
set_option linter.unusedVariables false
open Go.RowKit Go.Spk
open Go.Proofs.Tryz
namespace Go.Proofs.P
def Comes(E:Nat->Addr)(g gh:Nat)(vw re:Value)(w:World)(q:aX×Option Nat)(r:Ending)(a:World):Prop:=(∃v,r= .returned v/\xP E w.heap.size a.heap.size a q.2 v)/\cP a g gh vw re .nilIface q.1/\w.grownBy a (some g)
def Jj(s:aX)(m:de):Prop:=s.on.eN=false->s.on.iD=true/\ ∃own,fk (if s.cl then s.on.xL else s.on.xM)= .inl own/\own.kind=20/\(if s.cl then s.on.xL else s.on.xM).size<=32768/\((if s.cl then io own m else io m own)=none\/(own.B= [false]/\m.B= [false]))
def Pl(s:aX)(m:de):Prop:=s.cl=false->s.on.eN=true->s.on.done=false-> ∃x,m.S= [x]/\(x.size=32->di s.on.draw (bI x)≠0)
def Po(s:aX)(m:de):Prop:=s.on.asked=true->s.on.done=false->s.cl=true/\ ∃x y z,m.S= [x,y,z]/\x.size<=100000/\z.size<=1000000/\((∃i,fy x 32 9= .inr i)\/ ∃a b,fy x 32 9= .inl a/\fy z 64 10= .inl b/\y.size=32/\di s.on.draw (bI y)≠0/\(bI a≠s.rZ\/(bI a=s.rZ/\je (bI a) (fQ {s.on with p1:=bI y,sec:=eE (di s.on.draw (bI y)),hb:=x}) (bI b)=true)))
section
variable {Kw:Nat->Prop}{E:Nat->Addr}{w0 w:World}{g gh:Nat}{vw re:Value}{s:aX}
theorem Q9(cx:Ctx E w0 g w)(p:bC s)(h:cP w g gh vw re .nilIface s)(i:iA E w gh s.eB)(m:de)(j:m.kind=20)(k:Cb m)(a b c d:cH)(hm:mV (· ≠g) w a b c d m)(t:Jj s m)(u:oO s)(l:s.pm.size<=64):
 Calls prog 116 #[.pointer (some ⟨g,0,none⟩),.agg (dP m.kind a b c d)] w (Comes E g gh vw re w (jj s m)):=by
 by_cases n:s.on.eN=true
 .refine(U4 cx p h _ n).mono ?_;rintro r v ⟨rfl,q⟩;have e:jj s m=(s,some 5):=by unfold jj;rw[aJ n]
  rw[e];exact⟨⟨_,rfl,.inl rfl⟩,h.below q h.inside,bR q _⟩
 .have f:s.on.eN=false:=by simpa using n
  obtain⟨o,own,x,y,z,A⟩:=t f;exact(YR cx p h i m j k a b c d hm own x y z f o A u l).mono λr v h=>h
theorem Js(cx:Ctx E w0 g w)(t:bC s)(h:cP w g gh vw re .nilIface s)(m:de)(u:m.kind=30)(c d f i:cH)(hm:mV (· ≠g) w c d f i m)(A:Pl s m)(hz:te s.on)(B:oO s):
 Calls prog 117 #[.pointer (some ⟨g,0,none⟩),.agg (dP m.kind c d f i)] w (Comes E g gh vw re w (fE s m)):=by
 by_cases b:s.cl=true\/s.on.eN=false\/s.on.done=true
 .refine(Ns cx t h _ b).mono ?_;rintro r z ⟨rfl,o⟩;have e:fE s m=(s,some 5):=by unfold fE;rw[if_pos b]
  rw[e];exact⟨⟨_,rfl,.inl rfl⟩,h.below o h.inside,bR o _⟩
 .have j:s.cl=false:=by cases p:s.cl with|false=>rfl|true=>exact absurd (.inl p) b
  have l:s.on.eN=true:=by cases p:s.on.eN with|true=>rfl|false=>exact absurd (.inr (.inl p)) b
  have v:s.on.done=false:=by cases p:s.on.done with|false=>rfl|true=>exact absurd (.inr (.inr p)) b
  obtain⟨x,q,y⟩:=A j l v
  by_cases a:x.size=32
  .have n:=y a;refine(PA cx t h m u c d f i hm.S x q a n j l v hz B).mono ?_;rintro r z ⟨rfl,C,D⟩
   have e:(fE s m).2=none:=by
    unfold fE;rw[if_neg b,q];show(match gZ s x with|(s1,some k)=>(s1,some k)|(s1,none)=>_).2=_;unfold gZ;rw[if_neg (by rw[a];decide)];dsimp only;rw[if_neg n,if_neg n]
   refine⟨⟨_,rfl,?_⟩,C,D⟩;rw[e];rfl
  .refine(FW cx t h m.kind c d f i m.S hm.S x q a j l v).mono ?_;rintro r z ⟨rfl,o⟩
   have e:fE s m=(s,some 2):=by
    unfold fE;rw[if_neg b,q];show(match gZ s x with|(s1,some k)=>(s1,some k)|(s1,none)=>_)=_;unfold gZ;rw[if_pos a]
   rw[e];exact⟨⟨_,rfl,.inl rfl⟩,h.below o h.inside,bR o _⟩
theorem NH(cx:Ctx E w0 g w)(J:bC s)(h:cP w g gh vw re .nilIface s)(m:de)(C:m.kind=31)(b c d f:cH)(hm:mV (· ≠g) w b c d f m)(Y:Po s m)(hz:te s.on)(W:oO s):
 Calls prog 118 #[.pointer (some ⟨g,0,none⟩),.agg (dP m.kind b c d f)] w (Comes E g gh vw re w (fV s m)):=by
 by_cases a:s.on.asked=false\/s.on.done=true
 .refine(Qc cx J h _ a).mono ?_;rintro r O ⟨rfl,hb⟩;have e:fV s m=(s,some 5):=by unfold fV;rw[if_pos a]
  rw[e];exact⟨⟨_,rfl,.inl rfl⟩,h.below hb h.inside,bR hb _⟩
 .have K:s.on.asked=true:=by cases P:s.on.asked with|true=>rfl|false=>exact absurd (.inl P) a
  have L:s.on.done=false:=by cases P:s.on.done with|false=>rfl|true=>exact absurd (.inr P) a
  obtain⟨t,x,y,z,D,X,F,u⟩:=Y K L;rcases u with⟨i,l⟩|⟨n,G,A,B,Q,j,R⟩
  .refine(NJ cx J h m.kind b c d f m.S hm.S x y z D af K L i l).mono ?_;rintro r O ⟨v,rfl,M,hb⟩
   have e:fV s m=(s,some i):=by
    unfold fV;rw[if_neg a,D];show(match fy x 32 9 with| .inr k=>(s,some k)| .inl n=>_)=_;rw[l]
   rw[e];exact⟨⟨_,rfl,M⟩,h.below hb h.inside,bR hb _⟩
  .have Z:∃N,gZ s y=(N,none)/\N.rZ=s.rZ/\N.on={s.on with p1:=bI y,sec:=eE (di s.on.draw (bI y))}:=by
    unfold gZ;rw[if_neg (by rw[Q];decide)];dsimp only;rw[if_neg j,if_neg j,if_pos t];exact⟨_,rfl,rfl,rfl⟩
   obtain⟨N,U,H,V⟩:=Z
   have o:(fV s m).2=if bI n≠s.rZ then some 13 else if je (bI n) (fQ {s.on with p1:=bI y,sec:=eE (di s.on.draw (bI y)),hb:=x}) (bI G)=false then some 10 else none:=by
    unfold fV;rw[if_neg a,D];show(match fy x 32 9 with| .inr k=>(s,some k)| .inl n=>match fy z 64 10 with| .inr k=>(s,some k)| .inl G=>match gZ s y with|(s1,some k)=>(s1,some k)|(s1,none)=>_).2=_;rw[A,B,U];dsimp only;rw[H,V]
    by_cases p:bI n≠s.rZ
    .rw[if_pos p,if_pos p]
    .rw[if_neg p,if_neg p];have e2:fQ {{s.on with p1:=bI y,sec:=eE (di s.on.draw (bI y))}with hb:= [x,y,z].getD 0 ⟨#[]⟩}=fQ {s.on with p1:=bI y,sec:=eE (di s.on.draw (bI y)),hb:=x}:=rfl;rw[e2]
     by_cases q:je (bI n) (fQ {s.on with p1:=bI y,sec:=eE (di s.on.draw (bI y)),hb:=x}) (bI G)=false
     .rw[if_pos q,if_pos q]
     .rw[if_neg q,if_neg q]
   rcases R with I|⟨I,M⟩
   .refine(JK cx J h m C b c d f hm.S x y z D X F n G A B Q j t K L hz W I).mono ?_;rintro r O ⟨rfl,p,q⟩;refine⟨⟨_,rfl,?_⟩,p,q⟩;rw[o,if_pos I];exact .inl rfl
   .refine(Qd cx J h m C b c d f hm.S x y z D X F n G A B Q j t K L hz W I M).mono ?_;rintro r O ⟨rfl,p,q⟩;refine⟨⟨_,rfl,?_⟩,p,q⟩;rw[o,if_neg (λh=>h I),if_neg (by rw[M];decide)]
    rfl
end
section
variable {Kw:Nat->Prop}{E:Nat->Addr}{w0 w:World}{g gh:Nat}{vw re e:Value}{s:aX}
theorem Ux(a:bC s)(h:cP w g gh vw re e s):
 Calls prog 115 #[.pointer (some ⟨g,105,none⟩)] w λr b=>r= .returned (.int .u64 (s.rn:Nat))/\b=w:=by
 have c:=h.abO a;clear h a
 go_enter func115,ntmps115
 go_wp2_with fail
 go_ret
 exact⟨rfl,rfl⟩
end
structure iF(s:aX)(p:ByteArray):Prop where
 size:p.size<=32768
 gone:s.gone=false
 room:oO s
 rn1:1<=s.rn
 rn:s.rn<=1000000000
 pm:s.pm.size<=64
 UG:te s.on
 ZY:rx {s with since:=0}
 c7:s.c7<=1000000000
 init:∀m,fk p= .inl m->m.kind=20->Jj s m
 ans:∀m,fk p= .inl m->m.kind=30->Pl s m
 chk:∀m,fk p= .inl m->m.kind=31->Po s m
def Ji(Kw:Nat->Prop)(E:Nat->Addr)(g gh:Nat)(re:Value)(w:World)(q:aX×Bool×Option Nat)(r:Ending)(b:World):Prop:=(∃v,r= .returned (.tuple #[.bool q.2.1,v])/\aac E b q.2.2 v)/\(∃a,cP b g gh a re .nilIface q.1/\iB (Pw Kw g gh) b a (q.1.waits.map Value.string))/\w.grownBy b (some g)
def CQ(n:Nat):de:=⟨3,[n],[],[],[]⟩
theorem WQ(n:Nat)(a:n<4294967296):Cb (CQ n):=by
 refine⟨⟨#[117]⟩,(show dh 3=_ from by decide),?_⟩;show I7 [117] (CQ n);exact⟨⟨_,_,rfl,a⟩,rfl,rfl,rfl,rfl⟩
theorem Ef(n:Nat):(db (CQ n)).size=5:=by
 rw[<-aj,pB (m:=CQ n) (f:=⟨#[117]⟩) (show dh 3=_ from by decide)];show([(3:Int)]++(qJ n 4 4++ [])).length=5;simp only[List.length_append,eW,List.length_cons,List.length_nil]
theorem VE{w:ay}{b n:Nat}(h:Whole w b 147 #[.int .u32 n]):kb w.heap.size w (.slice (some ⟨b,0,none⟩) 1 1) (.slice none 0 0) (.slice none 0 0) (.slice none 0 0) (CQ n):=by
 refine⟨.inr ⟨b,0,1,rfl,ak _,h.inside,λj x a=> ?_⟩,.inl ⟨rfl,_,_,rfl⟩,⟨[],.inl ⟨rfl,_,_,rfl⟩,trivial⟩,.inl ⟨rfl,_,_,rfl⟩⟩;rw[h.at_]
 match j,a with
 |0,a=>simpa[CQ]using a
 |j+1,a=>simp[CQ]at a
theorem mV.imp{P Q:Nat->Prop}{w:ay}{b vs c d:cH}{m:de}(h:mV P w b vs c d m)(a:∀k,P k->Q k):mV Q w b vs c d m:=
 ⟨h.U.mono a,h.S.mono a,by obtain⟨e,f,g⟩:=h.N;exact⟨e,f.mono a,sQ.imp a g⟩,h.B.mono a⟩
def kZ(t:TypeId)(ps:List (List Value))(o:Option Obj):Prop:=o=some (.cells ps.flatten.toArray t (0,0))
theorem TO.ZH{E:gn}{k:Option Nat}{w:ay}{g gh:Nat}{vw re b e e':cH}{s s':aX}{r:List En}{A:iT}{G:Value->Nat->Nat->Prop}{P:abm}{dr:Bool}{ops:ZV}{l:rX}{X:iT}{n:Nat}{a:Go.Act}{C:Value->Go.Act}{o:Oper}{K:Go.Act->List En->Prop}{D:FuncId}{args:gJ}{F:Value->Nat->Nat->List En}(I:∀W,Hp w [g] (sE g gh vw re e s::r) W->Calls P D args W λu j=> ∃v,u= .returned v/\xP E W.heap.size j.heap.size j k v/\cP j g gh vw b e' s'/\W.grownBy j (some g))(h:∀v f c,G v f c)
 (c:ops[n]?=some o:=by rfl) (J:dr=false:=by rfl) (L:ip P dr ops l A=true:=by decide+kernel) (M:Region.wanted o (yielded ops a.tmps)=true:=by rfl) (t:gu P o=false:=by rfl) (N:∀W,(execOp a.eval o).run P W= .ok (.enter D args) W:=by(intro W;go_simp;first|done|rfl)) (O:∀v,a.put o.dst v=C v:=by(intro v;go_simp;first|done|rfl))
 (Q:∀v f c,r++ [fa (λk=>f<=k/\k<c) (λW=>xP E f c W k v) (λW j=>xP.loc v f c W j)]=F v f c:=by(intro v f c;simp only[List.cons_append,List.nil_append];rfl)) (hgo:∀v f c,G v f c->K (C v) (bl 0 g true (kZ 77) (eY gh vw b e' s')::F v f c):=by(intro v f c k;refine go ?_;exact k)):TO A P dr ops l w [g] X n K a (sE g gh vw re e s::r):=by
 refine TO.of c M t L λW m=> ?_;rw[N W];refine(I W m).mono λu j ⟨v,R,S,U,y⟩=> ?_;have H:∀k∈ [g],(sE g gh vw re e s).B k:=λk d=>ar.1 d;have q:∀k,(bl 0 g true (kZ 77) (eY gh vw b e' s')).B k->(sE g gh vw re e s).B k\/W.heap.size<=k:=λk d=> .inl d;have Y:=m.CM (p:=0) (e':=bl 0 g true (kZ 77) (eY gh vw b e' s')) rfl rfl (ci.bZ y) H q (λk d=>by obtain rfl:k=g:=d;exact aL (m.ins _ (.head _) _ rfl) y.size) U;have hF:=Fr.CM (p:=0) (s:=sE g gh vw re e s::r) (e':=bl 0 g true (kZ 77) (eY gh vw b e' s')) rfl (ci.bZ y) H q
 have z:∀x∈(sE g gh vw re e s::r).set 0 (bl 0 g true (kZ 77) (eY gh vw b e' s')),∀k,x.B k->k<W.heap.size:=λx i k d=>by
  rcases dz.1 i with rfl|i
  .exact m.ins _ (.head _) _ d
  .exact m.ins _ (.tail _ i) _ d
 refine⟨v,_,R,λ(h:dr=true)=>absurd (J.symm.trans h) an,Y.more (e:=fa (λk=>W.heap.size<=k/\k<j.heap.size) (λV=>xP E W.heap.size j.heap.size V k v) (λV Z=>xP.loc v _ _ V Z)) (λh=>by cases h) (λk d=>d.2) (λx i k h5 h6=>absurd (z x i k h5) (Nat.not_lt.2 h6.1)) S,⟨λ_=>⟨hF.et,hF.size,λx i k d=> ?_⟩⟩,?_⟩
 .rcases bT.1 i with i|i
  .exact hF.new x i k d
  .obtain rfl:=ar.1 i;exact .inr d.1
 .show K (a.put o.dst v) _;rw[O];have:=hgo v W.heap.size j.heap.size (h _ _ _);rw[<-Q]at this;exact this
theorem xj(s:aX)(x:bB):(gZ s x).1.waits=s.waits:=by
 unfold gZ
 split<;>rfl
theorem GW(s:aX)(m:de):(jj s m).1.waits=s.waits:=by
 unfold jj
 split
 .rfl
 .dsimp only;have e:∀b:Bool,∀t:aX,(if b=true then t else km t).waits=t.waits:=λb t=>by cases b<;>rfl
  split
  .exact e _ _
  .split
   .exact e _ _
   .split
    .exact e _ _
    .exact e _ _
theorem Ce(s:aX)(m:de):(fE s m).1.waits=s.waits:=by
 unfold fE
 split
 .rfl
 .have h:=xj s (m.S.headD ⟨#[]⟩)
  split
  .rename_i e;rw[e]at h;exact h
  .rename_i e;rw[e]at h;exact h
theorem EF(s:aX)(m:de):(fV s m).1.waits=s.waits:=by
 unfold fV
 split
 .rfl
 .split
  .rfl
  .split
   .rfl
   .have h:=xj s (m.S.getD 1 ⟨#[]⟩)
    split
    .rename_i e;rw[e]at h;exact h
    .rename_i e;rw[e]at h;dsimp only
     split
     .exact h
     .split
      .exact h
      .exact h
section
variable {Kw:Nat->Prop}{E:Nat->Addr}{w0 w:World}{g gh:Nat}{vw re:Value}{s:aX}
theorem Td(cx:Ctx E w0 g w)(f:bC s)(h:cP w g gh vw re .nilIface s)(y:iA E w gh s.eB)(hS:iB (Pw Kw g gh) w vw (s.waits.map Value.string))(p:bB)(n:iF s p)(o:s.on.skip=false)(k:Nat)(c:fk p= .inr k):
 Calls prog 83 #[.pointer (some ⟨g,0,none⟩),.string p] w (Ji Kw E g gh re w (dF s p)):=by
 have b:k<20:=by rcases KU c with h|h|h|h<;>omega
 have c:=aa c
 have t:Hid (∀k,k<=20->Cn k∉ [g]):=aa λk o=>by
  have q:∀k,k<=20->Cn k<30:=an;have:=q k o;have:=cx.hg;simp;omega
 have A:=n.rn1;have u:=n.rn
 have B:IntKind.u64.wrap ((s.rn:Int) -1)=((s.rn -1:Nat):Int):=by
  have e:IntKind.u64.wrap ((s.rn:Int) -1)=((s.rn:Int) -1) %18446744073709551616:=by simp[IntKind.wrap,IntKind.bits,IntKind.signed]
  rw[e];omega
 have C:IntKind.u32.wrap ((s.rn -1:Nat):Int)=((s.rn -1:Nat):Int):=by rw[IntKind.wrap_u32'];omega
 have j:=aa n;clear n
 by_cases d:k=19
 .subst d;rw[show dF s p=(l6 s (CQ (s.rn -1)),false,none) by unfold dF;rw[o,c.o];dsimp only;rw[if_neg an,if_pos rfl,Nat.mod_eq_of_lt af];rfl];refine TC.enter func83 ntmps83 _ _ (h.hw f hS) ?_;refine T.one 1 (TO.qk (v:= .tuple #[.agg #[.int .i64 0,.slice none 0 0,.slice none 0 0,.slice none 0 0,.slice none 0 0],.iface 356 (.pointer (some (E 19)))]) (λW a=>by have:=Fo E p j.o.size W (cx.hp a).env (cx.hp a).hw;rw[c.o]at this;exact this) ?_);refine T.one 5 (TO.J (z:=5) λD=> ?_);refine T.lw 1 _ (cx.env.gY.var 19 an) (t.o _ an) ?_;refine T.one 2 (TO.qk (v:= .bool true) (λW a=>((BS.bare b (cx.hp a).env.gY) 19 an).mono λr x ⟨l,m⟩=>⟨l,m▸Below.refl _ _⟩) ?_);refine T.one 5 (TO.qk (v:= .int .u64 s.rn) (λW a=>(Ux f (eF a)).mono λr x ⟨l,m⟩=>⟨l,m▸Below.refl _ _⟩) ?_);refine T.one 8 (TO.news (z:=1) λF=> ?_);refine T.one 10 (TO.BZ (s':=l6 s (CQ (s.rn -1))) (f.packed _ s.waits) (λW a=>D8 (CQ (s.rn -1)) (.slice (some ⟨F,0,none⟩) 1 1) (.slice none 0 0) (.slice none 0 0) (.slice none 0 0) (WQ _ af) (by rw[Ef];decide) (by rw[Ef];decide) f j.o.room.room.wn j.o.room.room.out j.o.room.room.since (cx.hp a).env.rows (cx.hp a).env.pX (cx.hp a).env.order (VE (Rf (a.lay (List.mem_of_getElem? (i:=3) rfl)))) (eF a)) ?_);exact TE.zc λW a=>⟨⟨_,rfl,rfl⟩,⟨vw,eF a,iR (a.en _ (.tail _ (.head _)))⟩,a.base.only⟩
 .rw[show dF s p=(s,false,some k) by unfold dF;rw[o,c.o];dsimp only;rw[if_neg an,if_neg d]];have G:=decide_eq_false (λh:19=k=>d h.symm);refine TC.enter func83 ntmps83 _ _ (h.hw f hS) ?_;refine T.one 1 (TO.qk (v:= .tuple #[.agg #[.int .i64 0,.slice none 0 0,.slice none 0 0,.slice none 0 0,.slice none 0 0],.iface 356 (.pointer (some (E k)))]) (λW a=>by have:=Fo E p j.o.size W (cx.hp a).env (cx.hp a).hw;rw[c.o]at this;exact this) ?_);refine T.one 5 (TO.J (z:=5) λD=> ?_);refine T.lw 1 _ (cx.env.gY.var 19 an) (t.o _ an) ?_;refine T.one 2 (TO.qk (v:= .bool false) (λW a=>((BS.bare b (cx.hp a).env.gY) 19 an).mono λr x ⟨l,m⟩=>⟨l.trans (by rw[G]),m▸Below.refl _ _⟩) ?_);exact TE.zc λW a=>⟨⟨_,rfl,.inl rfl⟩,⟨vw,eF a,iR (a.en _ (.tail _ (.head _)))⟩,a.base.only⟩
theorem YX{t:fg}{ps:qu}{g:Nat}{W:ay}(h:kZ t ps W.heap[g]?):Lay W g t ps:=h
theorem Th{s:aX}(a:bC s)(b:s.every=0):bC (nG s).1:=by
 unfold nG
 split
 .exact a
 .exact xZ _ b {a with rk:=by show dn (if s.cl then _ else _);split;exact a.lR;exact a.lQ,id:=by show dn (if s.c7=0 then _ else _);split;exact a.gA;exact a.id,key:=a.iG,iv:=dn.av,nv:=dn.av,mh:=dn.av,iH:=dn.av,lQ:=dn.av,lR:=dn.av,gA:=dn.av,iG:=dn.av}
theorem WL(cx:Ctx E w0 g w)(u:bC s)(h:cP w g gh vw re .nilIface s)(N:iA E w gh s.eB)(hS:iB (Pw Kw g gh) w vw (s.waits.map Value.string))(p:bB)(U:iF s p)(B:s.on.skip=false)(m:de)(n:fk p= .inl m):
 Calls prog 83 #[.pointer (some ⟨g,0,none⟩),.string p] w (Ji Kw E g gh re w (dF s p)):=by
 have V:=aa (yp U.size n);have n:=aa n
 have A:Hid (∀k,k<=20->Cn k∉ [g]):=aa λk B=>by
  have X:∀k,k<=20->Cn k<30:=an;have:=X k B;have:=cx.hg;simp;omega
 have Y:gh≠g:=fW N h an;have o:=aa U;clear U
 by_cases b:m.kind=1
 .have b:=aa b;rw[show dF s p=(s,false,some 17) by unfold dF;rw[B,n.o];simp[b.o]];refine TC.enter func83 ntmps83 _ _ (h.hw u hS) ?_
  refine T.one 1 (TO.cf (vf:=λx=> .tuple #[.agg #[.int .i64 1,sl x.1,sl x.2.1,sl x.2.2.1,sl x.2.2.2],.nilIface]) (j6.loc m) (λW a=>(kh E p o.o.size W (cx.hp a).env (cx.hp a).hw).mono λr l ⟨c,d⟩=>by
   rw[n.o]at c;obtain⟨C,D,F,G,f,j⟩:=c;rw[b.o]at f;obtain⟨x,⟨rfl,rfl,rfl,rfl⟩,t⟩:=j6.of j;exact⟨x,f,t,d⟩) λx H I=> ?_)
  refine T.one 5 (TO.J (z:=5) λJ=> ?_);refine T.lw 1 _ (cx.env.gY.var 19 an) (A.o _ an) ?_;refine T.one 2 (TO.qk (v:= .bool false) (λW a=>(oy (E 19) W).mono λr l ⟨c,d⟩=>⟨c,d▸aw _ _⟩) ?_);refine TC.rg [] ?_;refine T.lw 0 _ (cx.env.gY.var 17 an) (A.o _ an) ?_;exact TE.zc λW a=>⟨⟨_,rfl,.inl rfl⟩,⟨vw,eF a,iR (a.en _ (.tail _ (.head _)))⟩,a.base.only⟩
 by_cases b:m.kind=2
 .have b:=aa b;rw[show dF s p=(s,false,none) by unfold dF;rw[B,n.o];simp[b.o]];refine TC.enter func83 ntmps83 _ _ (h.hw u hS) ?_
  refine T.one 1 (TO.cf (vf:=λx=> .tuple #[.agg #[.int .i64 2,sl x.1,sl x.2.1,sl x.2.2.1,sl x.2.2.2],.nilIface]) (j6.loc m) (λW a=>(kh E p o.o.size W (cx.hp a).env (cx.hp a).hw).mono λr l ⟨c,d⟩=>by
   rw[n.o]at c;obtain⟨C,D,F,G,f,j⟩:=c;rw[b.o]at f;obtain⟨x,⟨rfl,rfl,rfl,rfl⟩,t⟩:=j6.of j;exact⟨x,f,t,d⟩) λx H I=> ?_)
  refine T.one 5 (TO.J (z:=5) λJ=> ?_);refine T.lw 1 _ (cx.env.gY.var 19 an) (A.o _ an) ?_;refine T.one 2 (TO.qk (v:= .bool false) (λW a=>(oy (E 19) W).mono λr l ⟨c,d⟩=>⟨c,d▸aw _ _⟩) ?_);exact TE.zc λW a=>⟨⟨_,rfl,rfl⟩,⟨vw,eF a,iR (a.en _ (.tail _ (.head _)))⟩,a.base.only⟩
 by_cases b:m.kind=3
 .have b:=aa b;rw[show dF s p=(s,false,none) by unfold dF;rw[B,n.o];simp[b.o]];refine TC.enter func83 ntmps83 _ _ (h.hw u hS) ?_
  refine T.one 1 (TO.cf (vf:=λx=> .tuple #[.agg #[.int .i64 3,sl x.1,sl x.2.1,sl x.2.2.1,sl x.2.2.2],.nilIface]) (j6.loc m) (λW a=>(kh E p o.o.size W (cx.hp a).env (cx.hp a).hw).mono λr l ⟨c,d⟩=>by
   rw[n.o]at c;obtain⟨C,D,F,G,f,j⟩:=c;rw[b.o]at f;obtain⟨x,⟨rfl,rfl,rfl,rfl⟩,t⟩:=j6.of j;exact⟨x,f,t,d⟩) λx H I=> ?_)
  refine T.one 5 (TO.J (z:=5) λJ=> ?_);refine T.lw 1 _ (cx.env.gY.var 19 an) (A.o _ an) ?_;refine T.one 2 (TO.qk (v:= .bool false) (λW a=>(oy (E 19) W).mono λr l ⟨c,d⟩=>⟨c,d▸aw _ _⟩) ?_);exact TE.zc λW a=>⟨⟨_,rfl,rfl⟩,⟨vw,eF a,iR (a.en _ (.tail _ (.head _)))⟩,a.base.only⟩
 by_cases b:m.kind=4
 .have b:=aa b;rw[show dF s p=(s,false,none) by unfold dF;rw[B,n.o];simp[b.o]];refine TC.enter func83 ntmps83 _ _ (h.hw u hS) ?_
  refine T.one 1 (TO.cf (vf:=λx=> .tuple #[.agg #[.int .i64 4,sl x.1,sl x.2.1,sl x.2.2.1,sl x.2.2.2],.nilIface]) (j6.loc m) (λW a=>(kh E p o.o.size W (cx.hp a).env (cx.hp a).hw).mono λr l ⟨c,d⟩=>by
   rw[n.o]at c;obtain⟨C,D,F,G,f,j⟩:=c;rw[b.o]at f;obtain⟨x,⟨rfl,rfl,rfl,rfl⟩,t⟩:=j6.of j;exact⟨x,f,t,d⟩) λx H I=> ?_)
  refine T.one 5 (TO.J (z:=5) λJ=> ?_);refine T.lw 1 _ (cx.env.gY.var 19 an) (A.o _ an) ?_;refine T.one 2 (TO.qk (v:= .bool false) (λW a=>(oy (E 19) W).mono λr l ⟨c,d⟩=>⟨c,d▸aw _ _⟩) ?_);exact TE.zc λW a=>⟨⟨_,rfl,rfl⟩,⟨vw,eF a,iR (a.en _ (.tail _ (.head _)))⟩,a.base.only⟩
 by_cases b:m.kind=20
 .have b:=aa b;rw[show dF s p=((jj s m).1,false,(jj s m).2) by unfold dF;rw[B,n.o];simp[b.o]];refine TC.enter func83 ntmps83 _ _ (h.hw u hS) ?_
  refine T.one 1 (TO.cf (vf:=λx=> .tuple #[.agg #[.int .i64 20,sl x.1,sl x.2.1,sl x.2.2.1,sl x.2.2.2],.nilIface]) (j6.loc m) (λW a=>(kh E p o.o.size W (cx.hp a).env (cx.hp a).hw).mono λr l ⟨c,d⟩=>by
   rw[n.o]at c;obtain⟨C,D,F,G,f,j⟩:=c;rw[b.o]at f;obtain⟨x,⟨rfl,rfl,rfl,rfl⟩,t⟩:=j6.of j;exact⟨x,f,t,d⟩) λx H I=> ?_)
  refine T.one 5 (TO.J (z:=5) λJ=> ?_);refine T.lw 1 _ (cx.env.gY.var 19 an) (A.o _ an) ?_;refine T.one 2 (TO.qk (v:= .bool false) (λW a=>(oy (E 19) W).mono λr l ⟨c,d⟩=>⟨c,d▸aw _ _⟩) ?_)
  refine T.one 2 (TO.ZH (E:=E) (k:=(jj s m).2) (s':=(jj s m).1) (λW a=>by
   have:=Q9 (cx.hp a) u (eF a) (a.base.whole N (ek Y)) m b.o V.o _ _ _ _ (mV.imp (a.en _ (ah (i:=2) rfl)) λi M e=>a.uniq (p:=0) (q:=2) rfl rfl an i M e) (o.o.init m n.o b.o) o.o.room o.o.pm;rw[b.o]at this;exact this.mono λr l ⟨⟨v,c,d⟩,f,j⟩=>⟨v,c,d,f,j⟩) λv l2 l3=> ?_)
  exact TE.zc λW a=>⟨⟨v,rfl,(a.en _ (ah (i:=4) rfl)).YB⟩,⟨vw,YX (a.en _ (.head _)),by rw[GW];exact iR (a.en _ (.tail _ (.head _)))⟩,a.base.only⟩
 by_cases b:m.kind=30
 .have b:=aa b;rw[show dF s p=((fE s m).1,false,(fE s m).2) by unfold dF;rw[B,n.o];simp[b.o]];refine TC.enter func83 ntmps83 _ _ (h.hw u hS) ?_
  refine T.one 1 (TO.cf (vf:=λx=> .tuple #[.agg #[.int .i64 30,sl x.1,sl x.2.1,sl x.2.2.1,sl x.2.2.2],.nilIface]) (j6.loc m) (λW a=>(kh E p o.o.size W (cx.hp a).env (cx.hp a).hw).mono λr l ⟨c,d⟩=>by
   rw[n.o]at c;obtain⟨C,D,F,G,f,j⟩:=c;rw[b.o]at f;obtain⟨x,⟨rfl,rfl,rfl,rfl⟩,t⟩:=j6.of j;exact⟨x,f,t,d⟩) λx H I=> ?_)
  refine T.one 5 (TO.J (z:=5) λJ=> ?_);refine T.lw 1 _ (cx.env.gY.var 19 an) (A.o _ an) ?_;refine T.one 2 (TO.qk (v:= .bool false) (λW a=>(oy (E 19) W).mono λr l ⟨c,d⟩=>⟨c,d▸aw _ _⟩) ?_)
  refine T.one 2 (TO.ZH (E:=E) (k:=(fE s m).2) (s':=(fE s m).1) (λW a=>by
   have:=Js (cx.hp a) u (eF a) m b.o _ _ _ _ (mV.imp (a.en _ (ah (i:=2) rfl)) λi M e=>a.uniq (p:=0) (q:=2) rfl rfl an i M e) (o.o.ans m n.o b.o) o.o.UG o.o.room;rw[b.o]at this;exact this.mono λr l ⟨⟨v,c,d⟩,f,j⟩=>⟨v,c,d,f,j⟩) λv l2 l3=> ?_)
  exact TE.zc λW a=>⟨⟨v,rfl,(a.en _ (ah (i:=4) rfl)).YB⟩,⟨vw,YX (a.en _ (.head _)),by rw[Ce];exact iR (a.en _ (.tail _ (.head _)))⟩,a.base.only⟩
 by_cases b:m.kind=31
 .have b:=aa b;rw[show dF s p=((fV s m).1,false,(fV s m).2) by unfold dF;rw[B,n.o];simp[b.o]];refine TC.enter func83 ntmps83 _ _ (h.hw u hS) ?_
  refine T.one 1 (TO.cf (vf:=λx=> .tuple #[.agg #[.int .i64 31,sl x.1,sl x.2.1,sl x.2.2.1,sl x.2.2.2],.nilIface]) (j6.loc m) (λW a=>(kh E p o.o.size W (cx.hp a).env (cx.hp a).hw).mono λr l ⟨c,d⟩=>by
   rw[n.o]at c;obtain⟨C,D,F,G,f,j⟩:=c;rw[b.o]at f;obtain⟨x,⟨rfl,rfl,rfl,rfl⟩,t⟩:=j6.of j;exact⟨x,f,t,d⟩) λx H I=> ?_)
  refine T.one 5 (TO.J (z:=5) λJ=> ?_);refine T.lw 1 _ (cx.env.gY.var 19 an) (A.o _ an) ?_;refine T.one 2 (TO.qk (v:= .bool false) (λW a=>(oy (E 19) W).mono λr l ⟨c,d⟩=>⟨c,d▸aw _ _⟩) ?_)
  refine T.one 2 (TO.ZH (E:=E) (k:=(fV s m).2) (s':=(fV s m).1) (λW a=>by
   have:=NH (cx.hp a) u (eF a) m b.o _ _ _ _ (mV.imp (a.en _ (ah (i:=2) rfl)) λi M e=>a.uniq (p:=0) (q:=2) rfl rfl an i M e) (o.o.chk m n.o b.o) o.o.UG o.o.room;rw[b.o]at this;exact this.mono λr l ⟨⟨v,c,d⟩,f,j⟩=>⟨v,c,d,f,j⟩) λv l2 l3=> ?_)
  exact TE.zc λW a=>⟨⟨v,rfl,(a.en _ (ah (i:=4) rfl)).YB⟩,⟨vw,YX (a.en _ (.head _)),by rw[EF];exact iR (a.en _ (.tail _ (.head _)))⟩,a.base.only⟩
 by_cases b:m.kind=21
 .have b:=aa b;cases y:s.on.yC
  .rw[show dF s p=(s,false,some 5) by unfold dF nG;rw[B,n.o];simp[b.o,y]];refine TC.enter func83 ntmps83 _ _ (h.hw u hS) ?_
   refine T.one 1 (TO.cf (vf:=λx=> .tuple #[.agg #[.int .i64 21,sl x.1,sl x.2.1,sl x.2.2.1,sl x.2.2.2],.nilIface]) (j6.loc m) (λW a=>(kh E p o.o.size W (cx.hp a).env (cx.hp a).hw).mono λr l ⟨c,d⟩=>by
    rw[n.o]at c;obtain⟨C,D,F,G,f,j⟩:=c;rw[b.o]at f;obtain⟨x,⟨rfl,rfl,rfl,rfl⟩,t⟩:=j6.of j;exact⟨x,f,t,d⟩) λx H I=> ?_)
   refine T.one 5 (TO.J (z:=5) λJ=> ?_);refine T.lw 1 _ (cx.env.gY.var 19 an) (A.o _ an) ?_;refine T.one 2 (TO.qk (v:= .bool false) (λW a=>(oy (E 19) W).mono λr l ⟨c,d⟩=>⟨c,d▸aw _ _⟩) ?_);refine T.one 1 (TO.qk (v:= .iface 356 (.pointer (some (E 5)))) (λW a=>(WM (cx.hp a) u (eF a) y).mono λr l ⟨c,d⟩=>⟨c,d▸aw _ _⟩) ?_);exact TE.zc λW a=>⟨⟨_,rfl,.inl rfl⟩,⟨vw,eF a,iR (a.en _ (.tail _ (.head _)))⟩,a.base.only⟩
  .rw[show dF s p=((nG s).1,false,none) by unfold dF;rw[B,n.o];simp[b.o];unfold nG;simp[y]];refine TC.enter func83 ntmps83 _ _ (h.hw u hS) ?_
   refine T.one 1 (TO.cf (vf:=λx=> .tuple #[.agg #[.int .i64 21,sl x.1,sl x.2.1,sl x.2.2.1,sl x.2.2.2],.nilIface]) (j6.loc m) (λW a=>(kh E p o.o.size W (cx.hp a).env (cx.hp a).hw).mono λr l ⟨c,d⟩=>by
    rw[n.o]at c;obtain⟨C,D,F,G,f,j⟩:=c;rw[b.o]at f;obtain⟨x,⟨rfl,rfl,rfl,rfl⟩,t⟩:=j6.of j;exact⟨x,f,t,d⟩) λx H I=> ?_)
   refine T.one 5 (TO.J (z:=5) λJ=> ?_);refine T.lw 1 _ (cx.env.gY.var 19 an) (A.o _ an) ?_;refine T.one 2 (TO.qk (v:= .bool false) (λW a=>(oy (E 19) W).mono λr l ⟨c,d⟩=>⟨c,d▸aw _ _⟩) ?_);refine T.one 1 (TO.abd (s':=(nG s).1) (cs':=(nG s).1.waits.map Value.string) (Th u o.o.ZY.every) (λW a=>(ZP (Kw:=λk=>Kw k/\k<w.heap.size) (cx.hp a) u (eF a) (a.en _ (.tail _ (.head _))) y o.o.ZY o.o.c7).mono λr l ⟨c,⟨v,d,f⟩,j⟩=>⟨v,c,d,f,j⟩) λZ=> ?_);exact TE.zc λW a=>⟨⟨_,rfl,rfl⟩,⟨Z,eF a,iR (a.en _ (.tail _ (.head _)))⟩,a.base.only⟩
 have O:=b;rename_i n1 n2 n3 n4 P Q R;have K:∀q,Hid (dF s p=q↔(if s.c7=0\/s.on.eN=true then(s,false,some 5)else(s,true,none))=q):=λq=>aa (by unfold dF;rw[B,n.o];simp[n1,n2,n3,n4,P,Q,R,O]);have e1:=gB.2 n1;have e2:=gB.2 n2;have e3:=gB.2 n3;have e4:=gB.2 n4;have ab:=gB.2 P;have ad:=gB.2 Q;have aj:=gB.2 R;have al:=gB.2 O;have M:(((s.c7:Nat):Int)==0)=decide (s.c7=0):=by rw[Bool.eq_iff_iff];simp
 cases L:s.on.eN<;>by_cases S:s.c7=0
 .rw[(K (s,false,some 5)).out.2 (by simp[L,S])];refine TC.enter func83 ntmps83 _ _ (h.hw u hS) ?_
  refine T.one 1 (TO.cf (vf:=λx=> .tuple #[.agg #[.int .i64 m.kind,sl x.1,sl x.2.1,sl x.2.2.1,sl x.2.2.2],.nilIface]) (j6.loc m) (λW a=>(kh E p o.o.size W (cx.hp a).env (cx.hp a).hw).mono λr l ⟨c,d⟩=>by
   rw[n.o]at c;obtain⟨C,D,F,G,f,j⟩:=c;obtain⟨x,⟨rfl,rfl,rfl,rfl⟩,t⟩:=j6.of j;exact⟨x,f,t,d⟩) λx H I=> ?_)
  refine T.one 5 (TO.J (z:=5) λJ=> ?_);refine T.lw 1 _ (cx.env.gY.var 19 an) (A.o _ an) ?_;refine T.one 2 (TO.qk (v:= .bool false) (λW a=>(oy (E 19) W).mono λr l ⟨c,d⟩=>⟨c,d▸aw _ _⟩) ?_);refine TC.rg [] ?_;refine T.lw 0 _ (cx.env.gY.var 5 an) (A.o _ an) ?_;exact TE.zc λW a=>⟨⟨_,rfl,.inl rfl⟩,⟨vw,eF a,iR (a.en _ (.tail _ (.head _)))⟩,a.base.only⟩
 .rw[(K (s,true,none)).out.2 (by simp[L,S])];refine TC.enter func83 ntmps83 _ _ (h.hw u hS) ?_
  refine T.one 1 (TO.cf (vf:=λx=> .tuple #[.agg #[.int .i64 m.kind,sl x.1,sl x.2.1,sl x.2.2.1,sl x.2.2.2],.nilIface]) (j6.loc m) (λW a=>(kh E p o.o.size W (cx.hp a).env (cx.hp a).hw).mono λr l ⟨c,d⟩=>by
   rw[n.o]at c;obtain⟨C,D,F,G,f,j⟩:=c;obtain⟨x,⟨rfl,rfl,rfl,rfl⟩,t⟩:=j6.of j;exact⟨x,f,t,d⟩) λx H I=> ?_)
  refine T.one 5 (TO.J (z:=5) λJ=> ?_);refine T.lw 1 _ (cx.env.gY.var 19 an) (A.o _ an) ?_;refine T.one 2 (TO.qk (v:= .bool false) (λW a=>(oy (E 19) W).mono λr l ⟨c,d⟩=>⟨c,d▸aw _ _⟩) ?_);exact TE.zc λW a=>⟨⟨_,rfl,rfl⟩,⟨vw,eF a,iR (a.en _ (.tail _ (.head _)))⟩,a.base.only⟩
 .rw[(K (s,false,some 5)).out.2 (by simp[L,S])];refine TC.enter func83 ntmps83 _ _ (h.hw u hS) ?_
  refine T.one 1 (TO.cf (vf:=λx=> .tuple #[.agg #[.int .i64 m.kind,sl x.1,sl x.2.1,sl x.2.2.1,sl x.2.2.2],.nilIface]) (j6.loc m) (λW a=>(kh E p o.o.size W (cx.hp a).env (cx.hp a).hw).mono λr l ⟨c,d⟩=>by
   rw[n.o]at c;obtain⟨C,D,F,G,f,j⟩:=c;obtain⟨x,⟨rfl,rfl,rfl,rfl⟩,t⟩:=j6.of j;exact⟨x,f,t,d⟩) λx H I=> ?_)
  refine T.one 5 (TO.J (z:=5) λJ=> ?_);refine T.lw 1 _ (cx.env.gY.var 19 an) (A.o _ an) ?_;refine T.one 2 (TO.qk (v:= .bool false) (λW a=>(oy (E 19) W).mono λr l ⟨c,d⟩=>⟨c,d▸aw _ _⟩) ?_);refine TC.rg [] ?_;refine T.lw 0 _ (cx.env.gY.var 5 an) (A.o _ an) ?_;exact TE.zc λW a=>⟨⟨_,rfl,.inl rfl⟩,⟨vw,eF a,iR (a.en _ (.tail _ (.head _)))⟩,a.base.only⟩
 .rw[(K (s,false,some 5)).out.2 (by simp[L,S])];refine TC.enter func83 ntmps83 _ _ (h.hw u hS) ?_
  refine T.one 1 (TO.cf (vf:=λx=> .tuple #[.agg #[.int .i64 m.kind,sl x.1,sl x.2.1,sl x.2.2.1,sl x.2.2.2],.nilIface]) (j6.loc m) (λW a=>(kh E p o.o.size W (cx.hp a).env (cx.hp a).hw).mono λr l ⟨c,d⟩=>by
   rw[n.o]at c;obtain⟨C,D,F,G,f,j⟩:=c;obtain⟨x,⟨rfl,rfl,rfl,rfl⟩,t⟩:=j6.of j;exact⟨x,f,t,d⟩) λx H I=> ?_)
  refine T.one 5 (TO.J (z:=5) λJ=> ?_);refine T.lw 1 _ (cx.env.gY.var 19 an) (A.o _ an) ?_;refine T.one 2 (TO.qk (v:= .bool false) (λW a=>(oy (E 19) W).mono λr l ⟨c,d⟩=>⟨c,d▸aw _ _⟩) ?_);refine TC.rg [] ?_;refine T.lw 0 _ (cx.env.gY.var 5 an) (A.o _ an) ?_;exact TE.zc λW a=>⟨⟨_,rfl,.inl rfl⟩,⟨vw,eF a,iR (a.en _ (.tail _ (.head _)))⟩,a.base.only⟩
theorem Te(cx:Ctx E w0 g w)(b:bC s)(h:cP w g gh vw re .nilIface s)(a:iA E w gh s.eB)(hS:iB (Pw Kw g gh) w vw (s.waits.map Value.string))(p:bB)(e:iF s p):
 Calls prog 83 #[.pointer (some ⟨g,0,none⟩),.string p] w (Ji Kw E g gh re w (dF s p)):=by
 cases c:s.on.skip with
 |true=>
  rw[show dF s p=({s with on:={s.on with skip:=false}},false,none) by unfold dF;rw[c];rfl];refine TC.enter func83 ntmps83 _ _ (h.hw b hS) ?_;refine TE.zc λW d=>⟨⟨_,rfl,rfl⟩,⟨vw,(d.uT ?_).1,iR (d.en _ (.tail _ (.head _)))⟩,d.base.only⟩
  kernel_rfl
 |false=>
  cases f:fk p with
  |inr k=>exact Td cx b h a hS p e c k f
  |inl m=>exact WL cx b h a hS p e c m f
end
inductive kk:aX->List ByteArray->aX->List ByteArray->Option Nat->Prop
 |stop {s:aX} {l:List ByteArray} (hp:s.eB.peer.size=0) (hr:ju s):kk s l s l none
 |wait {s:aX} {l:List ByteArray} (hp:s.eB.peer.size≠0) (hr:ju s) (h0:(dD s).1=0) (h1:(dD s).2.1=false):kk s l s l none
 |bad {s:aX} {l:List ByteArray} (k:Nat) (hp:s.eB.peer.size≠0) (hr:ju s) (hm:Room s) (h0:(dD s).1=(k:Int)+1) (hk:k<20):kk s l (jy {s with rs:=⟨#[]⟩} k) l (some k)
 |err {s:aX} {l:List ByteArray} (k:Nat) (hp:s.eB.peer.size≠0) (hr:ju s) (h0:(dD s).1=0) (h1:(dD s).2.1=true) (ht:iF (gM s) (strOfNums (dD s).2.2.1)) (he:(dF (gM s) (strOfNums (dD s).2.2.1)).2.2=some k) (hk:k<20) (hq:ju (dF (gM s) (strOfNums (dD s).2.2.1)).1) (hm:Room (dF (gM s) (strOfNums (dD s).2.2.1)).1):kk s l (jy (dF (gM s) (strOfNums (dD s).2.2.1)).1 k) l (some k)
 |step {s s2:aX} {l l2:List ByteArray} {o:Option Nat} (hp:s.eB.peer.size≠0) (hr:ju s) (h0:(dD s).1=0) (h1:(dD s).2.1=true) (ht:iF (gM s) (strOfNums (dD s).2.2.1)) (he:(dF (gM s) (strOfNums (dD s).2.2.1)).2.2=none)
  (hd:kk (dF (gM s) (strOfNums (dD s).2.2.1)).1 (if(dF (gM s) (strOfNums (dD s).2.2.1)).2.1=true then l++ [strOfNums (dD s).2.2.1]else l) s2 l2 o):kk s l s2 l2 o
theorem kk.rd{s s2:aX}{l a:eL}{o:Option Nat}(h:kk s l s2 a o):ju s:=by cases h<;>assumption
def Pt:aX->List uK->Prop
 |s,[]=>ju {s with rs:=⟨#[]⟩}
 |s,e::r=>ju {s with rs:=⟨#[]⟩}/\(∀x o,x.size<=1000000->o.size<=100000000->iF {s with rn:=s.rn+1,rs:=x,out:=o} (strOfNums e.ws))/\Pt e.nx r
def qi:List uK->Nat
 | []=>0
 |e::r=>e.d.size+qi r
theorem ju.at_{s:aX}(h:ju {s with rs:=⟨#[]⟩})(x o:bB)(a:x.size<=1000000):ju {s with rs:=x,out:=o}:=
 ⟨a,h.rn,⟨h.ok.host,h.ok.rZ,h.ok.wk,h.ok.rk,h.ok.iv,h.ok.nv,h.ok.mh,h.ok.iH,h.ok.lQ,h.ok.lR,h.ok.gA,h.ok.iG,h.ok.id,h.ok.key⟩,h.gone⟩
theorem JS:∀(L:List uK) (s:aX) (m:Nat) (o:bB) (l:eL),sP s L->Pt s L->m<=(chainB s L).length->m<=1000000->o.size+qi L<=100000000->s.eB.peer.size≠0->
 kk {s with rs:=strOfNums ((chainB s L).take m),out:=o} l {(dI s L m).at_ with rs:=strOfNums (dI s L m).rest,out:=o++(dI s L m).out} (l++(dI s L m).I6) none
 | [],s,m,o,l,_,j,_,q,_,p=>by
  have B:(chainB s []).take m= []:=by show([]:List Int).take m= [];simp
  rw[B];show kk {s with rs:=strOfNums [],out:=o} l {s with rs:=strOfNums [],out:=o++⟨#[]⟩} (l++ []) none;rw[dT,List.append_nil];exact .wait p (j.at_ _ _ (by rw[bG];decide)) rfl rfl
 |e::r,s,m,o,l,h,j,C,q,D,p=>by
  have t:chainB s (e::r)=aV s.rb s.rk s.rn e.ws++chainB e.nx r:=rfl;have k:∀z∈(chainB s (e::r)).take m,0<=z/\z<=255:=λz E=>vx h z (List.mem_of_mem_take E);have u:(strOfNums ((chainB s (e::r)).take m)).size<=1000000:=by rw[bG,List.length_take];omega
  have f:=j.1.at_ (strOfNums ((chainB s (e::r)).take m)) o u
  have i:dD {s with rs:=strOfNums ((chainB s (e::r)).take m),out:=o}=px s.rb s.rk s.rn ((chainB s (e::r)).take m):=by
   show px s.rb s.rk s.rn (bI (strOfNums ((chainB s (e::r)).take m)))=_;rw[cJ k]
  by_cases g:m<(aV s.rb s.rk s.rn e.ws).length
  .have a:=OH s.rb s.rk s.rn e.ws h.1.pos h.1.aaP m g;have c:(chainB s (e::r)).take m=(aV s.rb s.rk s.rn e.ws).take m:=by rw[t,List.take_append_of_le_length af]
   have b:=i;rw[c,a]at b;rw[ng g];show kk _ l {s with rs:=strOfNums ((aV s.rb s.rk s.rn e.ws).take m),out:=o++⟨#[]⟩} (l++ []) none;rw[dT,List.append_nil];rw[c]at f⊢;exact .wait p f (by rw[b]) (by rw[b])
  .have F:=yq s.rb s.rk s.rn e.ws
   have c:(chainB s (e::r)).take m=aV s.rb s.rk s.rn e.ws++(chainB e.nx r).take (m -(aV s.rb s.rk s.rn e.ws).length):=by
    rw[t,List.take_append,List.take_of_length_le (l:=aV s.rb s.rk s.rn e.ws) af]
   have a:=D5 s.rb s.rk s.rn e.ws ((chainB e.nx r).take (m -(aV s.rb s.rk s.rn e.ws).length)) h.1.u8 h.1.pos h.1.aaP;have b:=i;rw[c,a]at b;have v:m -(aV s.rb s.rk s.rn e.ws).length<=(chainB e.nx r).length:=by rw[t,List.length_append]at C;omega
   have G:o.size+(e.d.size+qi r)<=100000000:=D;have w:(strOfNums ((chainB e.nx r).take (m -(aV s.rb s.rk s.rn e.ws).length))).size<=1000000:=by rw[bG,List.length_take];omega
   have x:gM {s with rs:=strOfNums ((chainB s (e::r)).take m),out:=o}={s with rn:=s.rn+1,rs:=strOfNums ((chainB e.nx r).take (m -(aV s.rb s.rk s.rn e.ws).length)),out:=o}:=by
    unfold gM;rw[i,c,a]
   have y:strOfNums (dD {s with rs:=strOfNums ((chainB s (e::r)).take m),out:=o}).2.2.1=strOfNums e.ws:=by rw[i,c,a]
   have n:=h.1.take (strOfNums ((chainB e.nx r).take (m -(aV s.rb s.rk s.rn e.ws).length))) o;have A:=JS r e.nx (m -(aV s.rb s.rk s.rn e.ws).length) (o++e.d) (if e.up=true then l++ [strOfNums e.ws]else l) h.2 j.2.2 v af (by rw[ByteArray.size_append];omega) h.1.live.peer;rw[jd g];refine .step p f (by rw[i,c,a]) (by rw[i,c,a]) (by rw[x,y];exact j.2.1 _ _ w af) (by rw[x,y,n]) ?_;rw[x,y,n];dsimp only;cases H:e.up<;>rw[H]at A<;>simpa[lA]using A
inductive xQ:aX->ByteArray->aX->List ByteArray->Option Nat->Prop
 |bad {s:aX} {t:ByteArray} (k:Nat) (hk:k<20) (ht:t.size<=1000000) (hp:s.eB.part.size<=1000000) (hmo:s.eB.more<=1000) (he:(lP (t.size+1) s.eB t).2.2=some k) (ok:bC s) (hg:s.gone=false) (hr:Room s):xQ s t (jy {s with eB:=(lP (t.size+1) s.eB t).1} k) [] (some k)
 |abU {s:aX} {t:ByteArray} {s2:aX} {l:List ByteArray} {o:Option Nat} (ht:t.size<=1000000) (hp:s.eB.part.size<=1000000) (hmo:s.eB.more<=1000) (he:(lP (t.size+1) s.eB t).2.2=none) (ok:bC s) (hg:s.gone=false) (hr:s.rs.size+(lP (t.size+1) s.eB t).2.1.size<=1000000) (hd:kk {s with eB:=(lP (t.size+1) s.eB t).1,rs:=s.rs++(lP (t.size+1) s.eB t).2.1} [] s2 l o):xQ s t s2 l o
theorem xQ.wQ{s:aX}{t:bB}{s2:aX}{l:eL}{o:Option Nat}{hm:pV}{r:bB}(hf:lP (t.size+1) s.eB t=(hm,r,none))(b:t.size<=1000000)(c:s.eB.part.size<=1000000)(a:s.eB.more<=1000)(d:bC s)(e:s.gone=false)(f:s.rs.size+r.size<=1000000)(g:kk {s with eB:=hm,rs:=s.rs++r} [] s2 l o):xQ s t s2 l o:=by
 refine .abU b c a (by rw[hf]) d e (by rw[hf];exact f) ?_;rw[hf];exact g
theorem xQ.gone{s:aX}{t:bB}{s2:aX}{l:eL}{o:Option Nat}(h:xQ s t s2 l o):s.gone=false:=by cases h<;>assumption
theorem Me:∀{L:List uK} {s:aX} {m:Nat},Pt s L->Pt (dI s L m).at_ (dI s L m).left
 | [],_,_,h=>h
 |e::r,s,m,h=>by
  by_cases a:m<(aV s.rb s.rk s.rn e.ws).length
  .rw[ng a];exact h
  .rw[jd a];exact Me h.2.2
theorem Gv:∀{L:List uK} {s:aX} {m:Nat},qi (dI s L m).left<=qi L
 | [],_,_=>ak _
 |e::r,s,m=>by
  by_cases a:m<(aV s.rb s.rk s.rn e.ws).length
  .rw[ng a];exact ak _
  .rw[jd a];have b:qi (dI e.nx r (m -(aV s.rb s.rk s.rn e.ws).length)).left<=qi r:=Gv;show qi (dI e.nx r (m -(aV s.rb s.rk s.rn e.ws).length)).left<=e.d.size+qi r;omega
theorem Ev.eB{s:aX}{ws:aR}{b:Bool}{d:bB}{s':aX}(h:Ev s ws b d s'):s'.eB=s.eB:=by
 have c:=h.take ⟨#[]⟩ ⟨#[]⟩;have a:=uA {s with rn:=s.rn+1,rs:=⟨#[]⟩,out:=⟨#[]⟩} (strOfNums ws);rw[c]at a;exact a.eB
theorem Mc:∀{L:List uK} {s:aX} {m:Nat},sP s L->(dI s L m).at_.eB=s.eB
 | [],_,_,_=>rfl
 |e::r,s,m,h=>by
  by_cases a:m<(aV s.rb s.rk s.rn e.ws).length
  .rw[ng a]
  .rw[jd a];have b:(dI e.nx r (m -(aV s.rb s.rk s.rn e.ws).length)).at_.eB=e.nx.eB:=Mc h.2;show(dI e.nx r (m -(aV s.rb s.rk s.rn e.ws).length)).at_.eB=s.eB;rw[b,h.1.eB]
theorem Pt.rd{s:aX}{L:List uK}(h:Pt s L):ju {s with rs:=⟨#[]⟩}:=by
 cases L with
 |nil=>exact h
 |cons e r=>exact h.1
theorem Md:∀{L:List uK} {s:aX} {m:Nat},(chainB (dI s L m).at_ (dI s L m).left).length<=(chainB s L).length
 | [],_,_=>ak _
 |e::r,s,m=>by
  by_cases a:m<(aV s.rb s.rk s.rn e.ws).length
  .rw[ng a];exact ak _
  .rw[jd a];have b:(chainB (dI e.nx r (m -(aV s.rb s.rk s.rn e.ws).length)).at_ (dI e.nx r (m -(aV s.rb s.rk s.rn e.ws).length)).left).length<=(chainB e.nx r).length:=Md;show(chainB (dI e.nx r (m -(aV s.rb s.rk s.rn e.ws).length)).at_ (dI e.nx r (m -(aV s.rb s.rk s.rn e.ws).length)).left).length<=(aV s.rb s.rk s.rn e.ws++chainB e.nx r).length;rw[am];omega
theorem UI(s:aX)(L:List uK)(m k:Nat)(t:bB)(x:sP s L)(C:Pt s L)(D:Live s)(E:s.eB.part.size<=1000000)(y:s.eB.more<=1000)(K:(chainB s L).length<=900000)(F:qi L<=100000000)(hm:m+k<=(chainB s L).length)(z:bI t=((chainB s L).drop m).take k):
 ∃d j,xQ {(dI s L m).at_ with rs:=strOfNums (dI s L m).rest,out:=⟨#[]⟩} t {(dI s L (m+k)).at_ with rs:=strOfNums (dI s L (m+k)).rest,out:=d} j none/\(dI s L (m+k)).out=(dI s L m).out++d/\(dI s L (m+k)).I6=(dI s L m).I6++j:=by
 have c:=Mb L s m k af;have f:=Gw (L:=L) (s:=s) (m:=m) af;have n:=Dh (m:=m) x;have g:=Gu (m:=m) D x;have h:=Me (m:=m) C;have A:qi (dI s L m).left<=qi L:=Gv;have i:=Mc (m:=m) x;have G:(chainB (dI s L m).at_ (dI s L m).left).length<=(chainB s L).length:=Md;generalize M:dI s L m=q at*;obtain⟨a,b,N,O,o⟩:=q;dsimp only at*;have H:=vx n;have p:((chainB s L).drop m).length=(chainB s L).length -m:=List.length_drop
 have u:strOfNums b++t=strOfNums ((chainB a o).take (b.length+k)):=by
  rw[<-f,List.take_append,List.take_of_length_le (l:=b) af,show b.length+k -b.length=k by omega,<-z,Ad,fq]
 have v:b.length+k<=(chainB a o).length:=by rw[<-f,List.length_append,p];omega
 have I:t.size=k:=by rw[<-aj,z,List.length_take,p];omega
 have w:b.length+k<=1000000:=af
 .refine⟨(dI a o (b.length+k)).out,(dI a o (b.length+k)).I6,?_,by rw[c],by rw[c]⟩;have B:=JS o a (b.length+k) ⟨#[]⟩ [] n h v w (by show 0+_<=_;omega) g.peer;rw[em,List.nil_append]at B
  have J:lP (t.size+1) a.eB t=(a.eB,t,none):=by
   show(if a.eB.peer.size≠0\/a.eB.e≠none then _ else _)=_;rw[if_pos (.inl g.peer),g.e]
  refine xQ.wQ (hm:=a.eB) (r:=t) J af (by show a.eB.part.size<=_;rw[i];exact E) (by show a.eB.more<=_;rw[i];exact y) (h.rd.at_ (strOfNums b) ⟨#[]⟩ (by rw[bG];omega)).ok g.gone (by show(strOfNums b).size+t.size<=_;rw[bG];omega) ?_;rw[c];show kk {a with rs:=strOfNums b++t,out:=⟨#[]⟩} [] _ _ _;rw[u];exact B
structure mc.Rd(t:mc):Prop where
 okc:Pt t.s1 t.L
 rd:ju t.s0
 outs:qi t.L<=100000000
 more:t.s0.eB.more<=1000
 size:t.all.length<=900000
theorem mc.fed{t:mc}(h:t.Ok)(K:t.Rd)(y n:Nat)(x:bB)(W:y+n<=t.all.length)(z:bI x=(t.all.drop y).take n):
 ∃d u,xQ {t.at_ y with out:=⟨#[]⟩} x {t.at_ (y+n)with out:=d} u none/\t.out (y+n)=t.out y++d/\t.I6 (y+n)=t.I6 y++u:=by
 have O:=t.Aq;have v:=mc.UY h;have P:=K.size;have B:x.size=n:=by rw[<-aj,z,List.length_take,List.length_drop];omega
 have Q:t.head.length=t.ln.size+1:=by unfold mc.head;rw[List.length_append];rfl
 have M:t.s0.rs.size=0:=by rw[h.rs];rfl
 have p:∀(q:pV) (r o:ByteArray),r.size<=1000000->ju {t.s0 with eB:=q,rs:=r,out:=o}:=λq r o R=>⟨R,K.rd.rn,⟨K.rd.ok.host,K.rd.ok.rZ,K.rd.ok.wk,K.rd.ok.rk,K.rd.ok.iv,K.rd.ok.nv,K.rd.ok.mh,K.rd.ok.iH,K.rd.ok.lQ,K.rd.ok.lR,K.rd.ok.gA,K.rd.ok.iG,K.rd.ok.id,K.rd.ok.key⟩,K.rd.gone⟩
 by_cases l:y<=t.head.length
 .have C:t.at_ y={t.s0 with eB:={t.s0.eB with part:=⟨(t.head.take y).toArray⟩}}:=if_pos l;have D:t.out y=⟨#[]⟩:=if_pos l;have E:t.I6 y= []:=if_pos l;rw[C,D,E];have N:t.s0.gone=false:=h.gone;have s:t.s0.eB.peer.size=0:=by rw[h.peer];rfl
  have w:(⟨(t.head.take y).toArray⟩:ByteArray).size<=1000000:=by
   show(t.head.take y).toArray.size<=_;rw[List.size_toArray,List.length_take];have:=h.Nu;omega
  by_cases i:y+n<=t.head.length
  .have a:t.at_ (y+n)={t.s0 with eB:={t.s0.eB with part:=⟨(t.head.take (y+n)).toArray⟩}}:=if_pos i;have c:t.out (y+n)=⟨#[]⟩:=if_pos i;have f:t.I6 (y+n)= []:=if_pos i;rw[a,c,f]
   have j:x.data.toList=(t.head.drop y).take n:=by
    have F:bI x=((t.head.drop y).take n).map λb=>(b.toNat:Int):=by
     rw[z];unfold mc.all;rw[List.drop_append_of_le_length (by rw[List.length_map];exact l),List.take_append_of_le_length (by rw[List.length_drop,List.length_map];omega),<-List.map_drop,<-List.map_take]
    rw[<-fq x,F,Na]
   have g:(⟨(t.head.take y).toArray⟩:ByteArray)++x=⟨(t.head.take (y+n)).toArray⟩:=p7 (by
    simp only[ByteArray.data_append,Array.toList_append];rw[j,<-List.take_add])
   have A:=J0 x.size {t.s0.eB with part:=⟨(t.head.take y).toArray⟩} x (λq=>v (List.mem_of_mem_drop (List.mem_of_mem_take (j▸q)))) s h.e (by
    show((⟨(t.head.take y).toArray⟩:ByteArray)++x).size<255;rw[g];show(t.head.take (y+n)).toArray.size<255;rw[List.size_toArray,List.length_take];have:=h.Nu;omega)
   refine⟨⟨#[]⟩,[],xQ.wQ A af w K.more (p _ _ _ (by show t.s0.rs.size<=_;omega)).ok N (by show t.s0.rs.size+0<=_;omega) ?_,by rw[dT],rfl⟩;rw[g];dsimp only;rw[dT];exact .stop s (p _ _ _ af)
  .have a:t.at_ (y+n)={(dI t.s1 t.L (y+n -(t.head.length+1))).at_ with rs:=strOfNums (dI t.s1 t.L (y+n -(t.head.length+1))).rest}:=if_neg i;have c:t.out (y+n)=(dI t.s1 t.L (y+n -(t.head.length+1))).out:=if_neg i;have f:t.I6 (y+n)=(dI t.s1 t.L (y+n -(t.head.length+1))).I6:=if_neg i;rw[a,c,f];obtain⟨m,q⟩:∃m,y+n=t.head.length+1+m:=⟨y+n -(t.head.length+1),af⟩;rw[show y+n -(t.head.length+1)=m by omega];have G:m<=(chainB t.s1 t.L).length:=af
   have F:bI x=((t.head.drop y).map λb=>(b.toNat:Int))++10::(chainB t.s1 t.L).take m:=by
    rw[z];unfold mc.all;rw[List.drop_append_of_le_length (by rw[List.length_map];exact l),List.take_append,List.take_of_length_le (by rw[List.length_drop,List.length_map];omega),<-List.map_drop,List.length_map,List.length_drop,show n -(t.head.length -y)=m+1 by omega]
    rfl
   have H:x=strOfNums (((t.head.drop y).map λb=>(b.toNat:Int))++10::(chainB t.s1 t.L).take m):=by rw[<-F,fq]
   have j:x.data.toList=(⟨(t.head.drop y).toArray⟩:ByteArray).data.toList++10::(strOfNums ((chainB t.s1 t.L).take m)).data.toList:=by
    rw[H,strOfNums_data,List.map_append,<-strOfNums_data,Na,List.map_cons,<-strOfNums_data]
    rfl
   have g:(⟨(t.head.take y).toArray⟩:ByteArray)++⟨(t.head.drop y).toArray⟩=⟨t.head.toArray⟩:=p7 (by
    simp only[ByteArray.data_append,Array.toList_append];exact List.take_append_drop y t.head)
   have I:∃k,x.size+1=k+2:=⟨x.size -1,by
    have:1<=x.size:=by rw[B];omega
    omega⟩
   obtain⟨k,S⟩:=I
   have A:=J1 k {t.s0.eB with part:=⟨(t.head.take y).toArray⟩} ⟨(t.head.drop y).toArray⟩ (strOfNums ((chainB t.s1 t.L).take m)) x t.ln j (λq=>v (List.mem_of_mem_drop q)) s h.e (by
    show((⟨(t.head.take y).toArray⟩:ByteArray)++⟨(t.head.drop y).toArray⟩).size<255;rw[g];show t.head.toArray.size<255;rw[List.size_toArray];have:=h.Nu;omega) (by
    dsimp only;rw[g];have U:(⟨(Lib.trimSuffix t.head [13]).toArray⟩:ByteArray)=t.ln:=by unfold mc.head;rw[O0]
    show kv _ ⟨(Lib.trimSuffix t.head [13]).toArray⟩=_;rw[U,h.line]) h.ne
   rw[<-S]at A;have J:=JS t.L t.s1 m ⟨#[]⟩ [] h.chain K.okc G af (by show 0+_<=_;have:=K.outs;omega) h.ne;rw[em,List.nil_append]at J;refine⟨(dI t.s1 t.L m).out,(dI t.s1 t.L m).I6,xQ.wQ A af w K.more (p _ _ _ (by show t.s0.rs.size<=_;omega)).ok N (by show t.s0.rs.size+(strOfNums ((chainB t.s1 t.L).take m)).size<=_;rw[bG,List.length_take];omega) ?_,by rw[em],rfl⟩;dsimp only;rw[h.rs,em]
   have V:({t.s1 with rs:=strOfNums ((chainB t.s1 t.L).take m),out:=⟨#[]⟩}:aX)={t.s0 with eB:=⟨⟨#[]⟩,t.s0.eB.more,t.ln,none⟩,rs:=strOfNums ((chainB t.s1 t.L).take m),out:=⟨#[]⟩}:=by
    unfold mc.s1;have:=h.e;have:=h.part;simp_all
   rw[V]at J;exact J
 .have i:¬y+n<=t.head.length:=af;have C:t.at_ y={(dI t.s1 t.L (y -(t.head.length+1))).at_ with rs:=strOfNums (dI t.s1 t.L (y -(t.head.length+1))).rest}:=if_neg l;have D:t.out y=(dI t.s1 t.L (y -(t.head.length+1))).out:=if_neg l;have E:t.I6 y=(dI t.s1 t.L (y -(t.head.length+1))).I6:=if_neg l;have a:t.at_ (y+n)={(dI t.s1 t.L (y+n -(t.head.length+1))).at_ with rs:=strOfNums (dI t.s1 t.L (y+n -(t.head.length+1))).rest}:=if_neg i;have c:t.out (y+n)=(dI t.s1 t.L (y+n -(t.head.length+1))).out:=if_neg i;have f:t.I6 (y+n)=(dI t.s1 t.L (y+n -(t.head.length+1))).I6:=if_neg i;rw[C,D,E,a,c,f,show y+n -(t.head.length+1)=y -(t.head.length+1)+n by omega];refine UI t.s1 t.L (y -(t.head.length+1)) n x h.chain K.okc (mc.Wg h) (by show t.s0.eB.part.size<=_;rw[h.part];decide) K.more af K.outs af ?_;rw[z];unfold mc.all;rw[List.drop_append,List.drop_of_length_le (by rw[List.length_map];omega),List.nil_append,List.length_map,show y -t.head.length=y -(t.head.length+1)+1 by omega,List.drop_succ_cons]
theorem iB.len{P:Nat->Prop}{w:ay}{v:cH}{l:eL}(h:iB P w v (l.map Value.string)):∃A c,v= .slice A l.length c:=by
 rcases h with⟨h,A,c,rfl⟩|⟨g,o,c,h,_⟩
 .have:l.length=0:=by
   have:=aA List.length h;rwa[aM]at this
  exact⟨A,c,by rw[this]⟩
 .rw[aM]at h;exact⟨_,_,h⟩
theorem OG(b:Bool)(g:aR)(n:Nat)(ws:aR)(h:(px b g n ws).2.1=true):(px b g n ws).2.2.2.length<ws.length:=by
 unfold px at h⊢
 split
 .rename_i a;rw[if_pos a]at h;cases h
 .rename_i a;rw[if_neg a]at h
  split
  .rename_i c;rw[if_pos c]at h;cases h
  .rename_i c;rw[if_neg c]at h
   split
   .rename_i d;rw[if_pos d]at h;cases h
   .rename_i d;rw[if_neg d]at h
    split
    .rename_i e;rw[if_pos e]at h;cases h
    .rename_i e;rw[if_neg e]at h
     split
     .rename_i f;rw[if_pos f]at h;cases h
     .rename_i f;rw[if_neg f]at h
      split
      .rename_i i;rw[if_pos i]at h;cases h
      .dsimp only;rw[List.length_drop];unfold se;omega
theorem Le{s:aX}(h:(dD s).2.1=true):(strOfNums (dD s).2.2.2).size<s.rs.size:=by
 have:=OG s.rb s.rk s.rn (bI s.rs) h;rw[aj]at this;rw[bG];exact this
structure gU(Kw:Nat->Prop)(E:Nat->Addr)(w:World)(g gh:Nat)(s:aX):Prop where
 B:∃vw,cP w g gh vw .nilIface .nilIface s/\iB (Pw Kw g gh) w vw (s.waits.map Value.string)
 eB:iA E w gh s.eB
 ok:bC s
 gone:s.gone=false
structure uJ(E:Nat->Addr)(w:World)(g gh k p:Nat)(s:aX):Prop where
 B:∃vw re,cP w g gh vw re (dl p) s/\ ∃A c,vw= .slice A s.waits.length c
 err:sc E w k p
 eB:iA E w gh s.eB
 ok:bC s
 gone:s.gone=true
def FP(Kw:Nat->Prop)(E:Nat->Addr)(w:World)(g gh:Nat)(a:Value)(s:aX):Option Nat->Prop
 |none=>a= .nilIface/\gU Kw E w g gh s
 |some k=> ∃p,a=dl p/\uJ E w g gh k p s
theorem gU.mono{c d:Nat->Prop}{E:gn}{w:ay}{g gh:Nat}{s:aX}(h:gU c E w g gh s)(e:∀b,c b->d b):gU d E w g gh s:=by
 obtain⟨f,i,j⟩:=h.B;exact⟨⟨f,i,j.mono (λb a=>⟨a.1,a.2.1,e b a.2.2⟩)⟩,h.eB,h.ok,h.gone⟩
theorem FP.mono{a c:Nat->Prop}{E:gn}{w:ay}{g gh:Nat}{d:cH}{s:aX}{o:Option Nat}(h:FP a E w g gh d s o)(e:∀b,a b->c b):FP c E w g gh d s o:=by
 cases o with
 |none=>exact⟨h.1,h.2.mono e⟩
 |some k=>exact h
theorem gU.bound{Kw:Nat->Prop}{E:gn}{w:ay}{g gh:Nat}{s:aX}(h:gU Kw E w g gh s):gU (λb=>Kw b/\b<w.heap.size) E w g gh s:=by
 obtain⟨c,d,e⟩:=h.B;exact⟨⟨c,d,(pR e).mono (λb a=>⟨a.1.1,a.1.2.1,a.1.2.2,a.2⟩)⟩,h.eB,h.ok,h.gone⟩
theorem Bj{B:Nat}{e:fg}{w:ay}{v:cH}{n:Nat}{xs:gF}(h:w.ownsRow B e 1 v n xs)(b:Nat)(a:v.ownBlock=some b):B<=b:=by
 rcases h.2 with⟨h,_⟩|⟨q,c,d,h,f,_⟩
 .rw[h]at a;cases a
 .rw[h]at a;have a:some q=some b:=a;injection a with a;omega
theorem Fl{B g:Nat}{e t:fg}{cs:gJ}{w:ay}{v:cH}{n:Nat}{xs:gF}(h:w.ownsRow B e 1 v n xs)(c:Whole w g t cs)(d:t≠e):some g≠v.ownBlock:=λa=>by
 rcases h.2 with⟨h,_⟩|⟨q,f,i,h,_,b,_⟩
 .rw[h]at a;cases a
 .rw[h]at a;have a:some g=some q:=a;injection a with a;have c:w.heap[g]?=some (.cells cs t (0,0)):=c;rw[show q=g from a.symm,c]at b;injection b with b;injection b with _ j _;exact d j
theorem bC.failed{s:aX}(a:bC s)(k:Nat):bC (jy s k):=by
 have c:∀m:de,bC (l6 s m):=λm=>⟨a.host,a.rZ,a.wk,a.rk,a.iv,a.nv,a.mh,a.iH,a.lQ,a.lR,a.gA,a.iG,a.id,a.key⟩;have b:∀s:aX,bC s->bC {s with gone:=true}:=λs a=>⟨a.host,a.rZ,a.wk,a.rk,a.iv,a.nv,a.mh,a.iH,a.lQ,a.lR,a.gA,a.iG,a.id,a.key⟩;unfold jy
 split
 .exact b s a
 .refine b _ ?_;unfold EJ
  split
  .exact a
  .exact b _ (c _)
theorem xW(s:aX)(k:Nat):(jy s k).eB=s.eB/\(jy s k).waits=s.waits/\(jy s k).gone=true:=by
 unfold jy
 split
 .exact⟨rfl,rfl,rfl⟩
 .unfold EJ
  split<;>exact⟨rfl,rfl,rfl⟩
theorem kk.inv{s s2:aX}{l L:eL}{o:Option Nat}(h:kk s l s2 L o):ju s/\((s.eB.peer.size=0/\s2=s/\L=l/\o=none)\/(s.eB.peer.size≠0/\(dD s).1=0/\(dD s).2.1=false/\s2=s/\L=l/\o=none)\/
 (∃k:Nat,s.eB.peer.size≠0/\Room s/\(dD s).1=(k:Int)+1/\k<20/\s2=jy {s with rs:=⟨#[]⟩} k/\L=l/\o=some k)\/
 (∃k:Nat,s.eB.peer.size≠0/\(dD s).1=0/\(dD s).2.1=true/\iF (gM s) (strOfNums (dD s).2.2.1)/\(dF (gM s) (strOfNums (dD s).2.2.1)).2.2=some k/\k<20/\ju (dF (gM s) (strOfNums (dD s).2.2.1)).1/\Room (dF (gM s) (strOfNums (dD s).2.2.1)).1/\s2=jy (dF (gM s) (strOfNums (dD s).2.2.1)).1 k/\L=l/\o=some k)\/
 (s.eB.peer.size≠0/\(dD s).1=0/\(dD s).2.1=true/\iF (gM s) (strOfNums (dD s).2.2.1)/\(dF (gM s) (strOfNums (dD s).2.2.1)).2.2=none/\kk (dF (gM s) (strOfNums (dD s).2.2.1)).1 (if(dF (gM s) (strOfNums (dD s).2.2.1)).2.1=true then l++ [strOfNums (dD s).2.2.1]else l) s2 L o)):=by
 cases h with
 |stop a b=>exact⟨b,.inl ⟨a,rfl,rfl,rfl⟩⟩
 |wait a b c d=>exact⟨b,.inr (.inl ⟨a,c,d,rfl,rfl,rfl⟩)⟩
 |bad k a b e c f=>exact⟨b,.inr (.inr (.inl ⟨k,a,e,c,f,rfl,rfl,rfl⟩))⟩
 |err k a b c d g i f j e=>exact⟨b,.inr (.inr (.inr (.inl ⟨k,a,c,d,g,i,f,j,e,rfl,rfl,rfl⟩)))⟩
 |step a b c d g i m=>exact⟨b,.inr (.inr (.inr (.inr ⟨a,c,d,g,i,m⟩)))⟩
theorem So{s:aX}(a:bC s):bC (gM s):=⟨a.host,a.rZ,a.wk,a.rk,a.iv,a.nv,a.mh,a.iH,a.lQ,a.lR,a.gA,a.iG,a.id,a.key⟩
theorem Ctx.aaK{E:gn}{w0 w w':ay}{g gh:Nat}(h:Ctx E w0 g w)(k:ci [g,gh] w w')(b:w0.heap.size<=gh):Ctx E w0 g w':=
 ⟨h.UB,h.below.trans (k.below h.below.size (λm a=>by
  rcases dz.1 a with a|a
  .rw[a];exact h.at_
  .rw[ar.1 a];exact b)),h.at_,h.Nu⟩
def Jf(w:World)(L:List Nat):Prop:= ∀p a,Whole w p 86 a->p∉L
theorem Jf.nil{w:ay}:Jf w []:=λ_ _ _ h=>by cases h
theorem Jf.cons{w:ay}{g:Nat}{L:iT}{t:fg}{cs:gJ}(h:Whole w g t cs)(d:86≠t)(e:Jf w L):Jf w (g::L):=λp b c a=>by
 rcases dz.1 a with a|a
 .exact fW c h d a
 .exact e p b c a
theorem Jf.own{w:ay}{B n:Nat}{v:cH}{xs:gF}(h:w.ownsRow B 9 1 v n xs):Jf w v.ownBlock.toList:=λp e d a=>by
 have:=Fl h d an;cases c:v.ownBlock with
 |none=>rw[c]at a;cases a
 |some b=>
  rw[c]at a this;have a:p∈ [b]:=a;exact this (by rw[ar.1 a])
section
variable {E:Nat->Addr}{w w':World}{L:List Nat}{Kw:Nat->Prop}{g gh:Nat}{s:aX}
theorem sc.grow{k p:Nat}(h:sc E w k p)(a:ci L w w')(b:Jf w L):sc E w' k p:=by
 obtain⟨v,c,d⟩:=h;exact⟨v,a.whole c (b _ _ c),d.mz a b⟩
theorem Ik{B n:Nat}{e:fg}{v:cH}{xs:gF}(h:w.ownsRow B e 1 v n xs)(k:ci L w w')(i:∀b,v.ownBlock=some b->b∉L):w'.ownsRow B e 1 v n xs:=by
 refine⟨h.1,?_⟩;rcases h.2 with j|⟨g,c,a,d,l,f,r⟩
 .exact .inl j
 .have m:g<w.heap.size:=Whole.inside (t:=e) (cs:=a) f;exact .inr ⟨g,c,a,d,l,(k.block g m (i g (by rw[d];rfl))).trans f,r⟩
theorem gU.grow(h:gU Kw E w g gh s)(k:ci L w w')(h1:g∉L)(a:gh∉L)(c:∀b,Kw b->b∉L):gU Kw E w' g gh s:=by
 obtain⟨d,e,f⟩:=h.B;exact⟨⟨d,k.lay e h1,f.grow k (λi j=>c i j.2.2)⟩,k.whole h.eB a,h.ok,h.gone⟩
theorem uJ.grow{q p:Nat}(h:uJ E w g gh q p s)(k:ci L w w')(h1:g∉L)(a:gh∉L)(hF:Jf w L):uJ E w' g gh q p s:=by
 obtain⟨b,c,d,e⟩:=h.B;exact⟨⟨b,c,k.lay d h1,e⟩,h.err.grow k hF,k.whole h.eB a,h.ok,h.gone⟩
end
section
variable {Kw Kb:Nat->Prop}{E:Nat->Addr}{w0 w W:World}{g gh:Nat}{s s2:aX}{L:List ByteArray}{o:Option Nat}{r:List En}
theorem gU.stays(h:gU Kb E W g gh s)(e:∀x∈r,∀k,x.B k->k≠g/\k≠gh/\ ¬Kb k):qI r (λV=>gU Kb E V g gh s) W:=λV M i f=>
 h.grow i (λa=>by obtain⟨x,c,d⟩:=f _ a;exact(e x c _ d).1 rfl) (λa=>by obtain⟨x,c,d⟩:=f _ a;exact(e x c _ d).2.1 rfl) (λb j a=>by obtain⟨x,c,d⟩:=f _ a;exact(e x c _ d).2.2 j)
theorem uJ.stays{k p:Nat}(h:uJ E W g gh k p s)(d:∀x∈r,∀k,x.B k->k≠g/\k≠gh/\ ∀e,¬Whole W k 86 e):qI r (λV=>uJ E V g gh k p s) W:=λV M i f=>
 h.grow i (λa=>by obtain⟨x,b,c⟩:=f _ a;exact(d x b _ c).1 rfl) (λa=>by obtain⟨x,b,c⟩:=f _ a;exact(d x b _ c).2.1 rfl) (λq e j a=>by obtain⟨x,b,c⟩:=f _ a;exact(d x b _ c).2.2 e j)
theorem GB{vw re:cH}(cx:Ctx E w0 g W)(d:bC s)(h:cP W g gh vw re .nilIface s)(i:∃A c,vw= .slice A s.waits.length c)(a:iA E W gh s.eB)(hgo:s.gone=false)(k:Nat)(j:k<20)(v:cH)(hv:mH E W k v)(l:Room s)(b:g≠gh):
 Calls prog 79 #[.pointer (some ⟨g,0,none⟩),v] W λe w'=> ∃p,e= .returned (dl p)/\uJ E w' g gh k p (jy s k)/\ci [g] W w':=
 (YF cx d h hgo k j v hv l).mono λe w' ⟨p,m,_,n,o,f⟩=>⟨p,m,⟨⟨vw,re,o,by rw[(xW s k).2.1];exact i⟩,n,by rw[(xW s k).1];exact Whole.only a f (bE (gT b)),d.failed k,(xW s k).2.2⟩,ci.bZ f⟩
structure FO(E:Nat->Addr)(w:World)(g gh k:Nat)(re v:Value)(s:aX):Prop where
 B:∃vw,cP w g gh vw re .nilIface s/\ ∃A c,vw= .slice A s.waits.length c
 err:mH E w k v
 eB:iA E w gh s.eB
 ok:bC s
 gone:s.gone=false
def Nm(r:List En)(W:World)(g gh:Nat)(Kb:Nat->Prop):Prop:= ∀x∈r,∀k,x.B k->k≠g/\k≠gh/\ ¬Kb k/\ ∀a,¬Whole W k 86 a
theorem Nm.nil:Nm [] W g gh Kb:=λ_ h=>by cases h
theorem gU.st(h:gU Kb E W g gh s)(a:Nm r W g gh Kb):qI r (λV=>gU Kb E V g gh s) W:=h.stays λx b k c=>⟨(a x b k c).1,(a x b k c).2.1,(a x b k c).2.2.1⟩
theorem uJ.st{k p:Nat}(h:uJ E W g gh k p s)(a:Nm r W g gh Kb):qI r (λV=>uJ E V g gh k p s) W:=h.stays λx b k c=>⟨(a x b k c).1,(a x b k c).2.1,(a x b k c).2.2.2⟩
theorem FO.st{k:Nat}{re v:cH}(h:FO E W g gh k re v s)(d:Nm r W g gh Kb):qI r (λV=>FO E V g gh k re v s) W:=λV M e f=>by
 have n:∀m∈M,m≠g/\m≠gh:=λm a=>let⟨x,b,c⟩:=f _ a;⟨(d x b _ c).1,(d x b _ c).2.1⟩;obtain⟨i,j,l⟩:=h.B;exact⟨⟨i,e.lay j (λa=>(n _ a).1 rfl),l⟩,h.err.mz e (λq o p a=>let⟨x,b,c⟩:=f _ a;(d x b _ c).2.2.2 o p),e.whole h.eB (λa=>(n _ a).2 rfl),h.ok,h.gone⟩
theorem qU{e:En}{x:Option Addr×Nat×Nat}{xs:gF}{M L:iT}{d:ay}(f:Hp w M [e,ow 1 w.heap.size 9 (sl x) xs] W)(q:g<w.heap.size)(r:gh<w.heap.size)(i:∀b,Kb b->b<w.heap.size)(j:ci L W d)(m:∀k∈L,k<w.heap.size):Nm [ow 1 w.heap.size 9 (sl x) xs] d g gh Kb:=λy n k a=>by
 obtain rfl:=ar.1 n;have h:W.ownsRow w.heap.size 9 1 (sl x) xs.length xs:=f.en (ow 1 w.heap.size 9 (sl x) xs) bj;have a:(sl x).ownBlock=some k:=a;have l:=Bj h k a;refine⟨af,af,λc=>by have:=i _ c;omega,λs o=>Fl (Ik h j λb c p=> ?_) o an a.symm⟩;have:=Bj h b c;have:=m b p;omega
theorem Qv(cx:Ctx E w0 g W)(hq:gU Kb E W g gh s)(d:ju s)(b:g≠gh)(f:(dD s).1=0)(h1:(dD s).2.1=false):Calls prog 82 #[.pointer (some ⟨g,105,none⟩)] W λe c=>e= .returned (.tuple #[.string ⟨#[]⟩,.bool false,.nilIface])/\gU Kb E c g gh s/\ci [g] W c:=by
 obtain⟨h,i,j⟩:=hq.B;refine(Fw cx d i).mono λe c a=> ?_;unfold CV at a;rw[aJ f,h1]at a;exact⟨a.1,⟨⟨h,a.2.1,rT j a.2.2⟩,Whole.only hq.eB a.2.2 (bE (gT b)),hq.ok,hq.gone⟩,ci.bZ a.2.2⟩
theorem GC(cx:Ctx E w0 g W)(hq:gU Kb E W g gh s)(d:ju s)(b:g≠gh)(f:(dD s).1=0)(h1:(dD s).2.1=true):Calls prog 82 #[.pointer (some ⟨g,105,none⟩)] W λe c=>e= .returned (.tuple #[.string (strOfNums (dD s).2.2.1),.bool true,.nilIface])/\gU Kb E c g gh (gM s)/\ci [g] W c:=by
 obtain⟨h,i,j⟩:=hq.B;refine(Fw cx d i).mono λe c a=> ?_;unfold CV at a;rw[aJ f,h1]at a;exact⟨a.1,⟨⟨h,a.2.1,rT j a.2.2⟩,Whole.only hq.eB a.2.2 (bE (gT b)),So hq.ok,hq.gone⟩,ci.bZ a.2.2⟩
theorem Qu(cx:Ctx E w0 g W)(hq:gU Kb E W g gh s)(h:ju s)(a:g≠gh)(k:Nat)(i:(dD s).1=(k:Int)+1):Calls prog 82 #[.pointer (some ⟨g,105,none⟩)] W λe b=> ∃p,e= .returned (.tuple #[.string ⟨#[]⟩,.bool false,dl p])/\FO E b g gh k (dl p) (dl p) {s with rs:=⟨#[]⟩}/\ci [g] W b:=by
 obtain⟨j,l,m⟩:=hq.B;refine(Fw cx h l).mono λe b c=> ?_;unfold CV at c;rw[aq af]at c;obtain⟨p,n,o,d,_,f⟩:=c;rw[i,show((k:Int)+1 -1).toNat=k by omega]at f;exact⟨p,n,⟨⟨j,o,iB.len m⟩,f,Whole.only hq.eB d (bE (gT a)),hq.ok.Wn _,hq.gone⟩,ci.bZ d⟩
theorem Qy(cx:Ctx E w0 g W)(hq:gU Kb E W g gh s)(a:g≠gh)(p:bB)(i:iF s p)(he:(dF s p).2.2=none)(d:ju (dF s p).1):Calls prog 83 #[.pointer (some ⟨g,0,none⟩),.string p] W λe b=>e= .returned (.tuple #[.bool (dF s p).2.1,.nilIface])/\gU Kb E b g gh (dF s p).1/\ci [g] W b:=by
 obtain⟨o,j,k⟩:=hq.B;refine(Te cx hq.ok j hq.eB k p i).mono λe b ⟨⟨v,l,f⟩,⟨c,m,n⟩,h⟩=> ?_;rw[he]at f;obtain rfl:v= .nilIface:=f;exact⟨l,⟨⟨c,m,n⟩,by rw[(uA s p).eB];exact Whole.only hq.eB h (bE (gT a)),d.ok,d.gone⟩,ci.bZ h⟩
theorem Qx(cx:Ctx E w0 g W)(hq:gU Kb E W g gh s)(c:g≠gh)(p:bB)(i:iF s p)(k:Nat)(he:(dF s p).2.2=some k)(f:ju (dF s p).1):Calls prog 83 #[.pointer (some ⟨g,0,none⟩),.string p] W λe b=> ∃x:TypeId×Value,e= .returned (.tuple #[.bool (dF s p).2.1,.iface x.1 x.2])/\FO E b g gh k .nilIface (.iface x.1 x.2) (dF s p).1/\ci [g] W b:=by
 obtain⟨q,j,l⟩:=hq.B;refine(Te cx hq.ok j hq.eB l p i).mono λe b ⟨⟨v,m,a⟩,⟨d,n,o⟩,h⟩=> ?_;rw[he]at a;have a:mH E b k v:=a;obtain⟨T,x,rfl⟩:=a.form;exact⟨(T,x),m,⟨⟨d,n,iB.len o⟩,a,by rw[(uA s p).eB];exact Whole.only hq.eB h (bE (gT c)),f.ok,f.gone⟩,ci.bZ h⟩
theorem GL{k:Nat}{re v:cH}(cx:Ctx E w0 g W)(hq:FO E W g gh k re v s)(b:k<20)(c:Room s)(a:g≠gh):Calls prog 79 #[.pointer (some ⟨g,0,none⟩),v] W λe w'=> ∃p,e= .returned (dl p)/\uJ E w' g gh k p (jy s k)/\ci [g] W w':=by
 obtain⟨h,d,f⟩:=hq.B;exact GB cx hq.ok d f hq.eB hq.gone k b v hq.err c a
theorem zW{B:Nat}{v:cH}{l:eL}(h:W.ownsRow B 9 1 v (l.map Value.string).length (l.map Value.string)):W.ownsRow B 9 1 v l.length (l.map Value.string):=by rwa[aM]at h
structure FdS where
 s:aX
 l:List ByteArray
 r:List En
 d:Nat
 x:Option Addr×Nat×Nat
theorem QE(cx:Ctx E w0 g w)(ad:w0.heap.size<=gh)(h:gU Kw E w g gh s)(t:bB)(hF:xQ s t s2 L o):
 Calls prog 44 #[.pointer (some ⟨g,0,none⟩),.string t] w λr w'=> ∃lv ev,r= .returned (.tuple #[lv,ev])/\w'.ownsRow w.heap.size 9 1 lv L.length (L.map Value.string)/\FP Kw E w' g gh ev s2 o/\ci [g,gh] w w':=by
 have h:=h.bound;obtain⟨mx,al⟩:=cx.env.max;have aB:g≠gh:=by obtain⟨J,n,_⟩:=h.B;exact fW n h.eB an
 have lg:g<w.heap.size:=by obtain⟨J,n,_⟩:=h.B;exact Lay.inside n
 have lh:gh<w.heap.size:=Whole.inside h.eB;have M:Hid (∀W,ci [g,gh] w W->Ctx E w0 g W):=aa λW c=>cx.aaK c ad;have MX:Hid (∀W,ci [g,gh] w W->W.cell? ⟨24,0,none⟩=some (.int .i64 mx)):=aa λW c=>c.cell al (by have:=cx.Nu;have:=cx.at_;simp;omega);have BG:Hid (30<=gh):=aa (ap cx.Nu ad);have N:=aa aB;have hN:Hid (∀k∈ [g,gh],k<w.heap.size/\ ∀x∈([]:List En),¬x.B k):=aa λk hk=>⟨by rcases dz.1 hk with rfl|hk;exact lg;exact ar.1 hk▸lh,λ_ h=>by cases h⟩;have hc:t.size<=1000000/\s.eB.part.size<=1000000/\s.eB.more<=1000:=by cases hF<;>exact⟨by assumption,by assumption,by assumption⟩
 have HC:=aa hc;have HF:=aa hF;obtain⟨H,m,oe,hR⟩:∃H m oe,Hid (lP (t.size+1) s.eB t=(H,m,oe)):=⟨_,_,_,aa rfl⟩;have ao:Hid (bC {s with eB:=H}):=aa {h.ok with};have av:=aa h.gone;obtain⟨S1,O⟩:∃S1,Hid (S1={s with eB:=H}):=⟨_,aa rfl⟩;obtain⟨S2,aj⟩:∃S2,Hid (S2={s with eB:=H,rs:=s.rs++m}):=⟨_,aa rfl⟩
 have C5:Hid (∀W,ci [g,gh] w W->gU (λb=>Kw b/\b<w.heap.size) E W g gh s->Calls prog 78 #[.pointer (some ⟨gh,0,none⟩),.string t] W λr u=> ∃_:Unit,r= .returned (.tuple #[.string m,eV E oe])/\qI [] (λV=>gU (λb=>Kw b/\b<w.heap.size) E V g gh S1) u/\ci [gh] W u):=aa λW c a=>(UW E gh s.eB t HC.o.1 HC.o.2.1 HC.o.2.2 mx W a.eB ((M.o W c).env.gY.var 3 an) ((M.o W c).env.gY.var 2 an) ((M.o W c).env.gY.var 11 an) (MX.o W c) BG.o).mono λr u ⟨e,f,j⟩=>⟨(),by rw[e,hR.out],gU.stays (r:= []) (by
  obtain⟨J,n,Z⟩:=a.B;rw[hR.out]at f;rw[O.o];exact⟨⟨J,Lay.only n j (bE N.o),Z.grow (ci.bZ j) (λi hi Y=>hi.2.1 (ar.1 Y))⟩,f,ao.o,av.o⟩) (λ_ h=>by cases h),ci.bZ j⟩
 clear hc hF cx ad al;refine TC.enter func44 ntmps44 _ [g,gh] (Hp.st (z:=true) (Hp.nil _ _) hN.o (h.stays λ_ h=>by cases h)) ?_;refine T.rl 3 .nilIface (λW _ a=>by obtain⟨J,n,_⟩:=a.B;exact n.Xs a.ok) ?_;refine T.rl 3 (.pointer (some ⟨gh,0,none⟩)) (λW _ a=>by obtain⟨J,n,_⟩:=a.B;exact n.uu a.ok) ?_;rcases HF.o with⟨k,hk,_,_,_,K,_,_,hr⟩|⟨_,_,_,K,_,_,hr,Q⟩
 .rw[hR.out]at K;obtain rfl:oe=some k:=K;have HR:=aa hr;clear hr;refine T.one 5 (TO.re (λ(_:Unit) V=>gU (λb=>Kw b/\b<w.heap.size) E V g gh S1) [gh] (vf:=λ_=> .tuple #[.string m,.iface 356 (.pointer (some (E k)))]) (λW c a=>C5.o W c.base a) λ_ d=> ?_)
  refine T.one 2 (TO.re (λp V=>uJ E V g gh k p (jy S1 k)) (vf:=dl) [g] (λW c a=>by
   obtain⟨J,n,Z⟩:=a.B;exact(GB ((M.o W c.base)) a.ok n (iB.len Z) a.eB a.gone k hk _ (.inl rfl) (by rw[O.o];exact⟨HR.o.wn,HR.o.out,HR.o.since⟩) N.o).mono λr u ⟨p,e,f,j⟩=>⟨p,e,f.stays (r:= []) (λ_ h=>by cases h),j⟩) λp d=> ?_)
  refine TE.zc λW c=>⟨_,_,rfl,wV _ _ _,⟨p,rfl,by have:=c.qq;rw[hR.out,<-O.o];exact this⟩,c.base⟩
 .rw[hR.out]at K hr Q;obtain rfl:oe=none:=K;have HD:=aa Q;have HR:=aa hr;clear hr Q;refine T.one 5 (TO.re (λ(_:Unit) V=>gU (λb=>Kw b/\b<w.heap.size) E V g gh S1) [gh] (vf:=λ_=> .tuple #[.string m,.nilIface]) (λW c a=>C5.o W c.base a) λ_ d=> ?_)
  refine T.one 4 (TO.re (λ(_:Unit) V=>gU (λb=>Kw b/\b<w.heap.size) E V g gh S2) [g] (vf:=λ_=> .tuple #[]) (λW c a=>by
   obtain⟨J,n,Z⟩:=a.B;exact(Wi a.ok n m (by rw[O.o];have:s.rs.size+m.size<=1000000:=HR.o;exact ap this an)).mono λr u ⟨e,f,j⟩=>⟨(),e,gU.stays (r:= []) (by rw[aj.o];rw[O.o]at f Z a;exact⟨⟨J,f,rT Z j⟩,Whole.only a.eB j (bE (gT N.o)),ao.o.Wn _,av.o⟩) (λ_ h=>by cases h),ci.bZ j⟩) λ_ d=> ?_)
  refine TC.own 1 9 ?_;refine TC.inv (ι:=FdS) [(8,12),(38,75)] (λy=> [(8,sl y.x)]) (λy s=>(s.set 0 (rE w true [g,gh] y.r y.d λV=>gU (λb=>Kw b/\b<w.heap.size) E V g gh y.s)).set 1 (ow 1 w.heap.size 9 (sl y.x) (y.l.map Value.string))) (λy=>kk y.s y.l s2 L o/\y.l.length+y.s.rs.size<=1000000) (λy=>y.s.rs.size) ⟨S2,[],_,_,(none,0,0)⟩ ⟨by rw[aj.o];exact HD.o,by rw[aj.o];have:s.rs.size+m.size<=1000000:=HR.o;show 0+(s.rs++m).size<=_;rw[aN];omega⟩ ?_;intro R ⟨q,l',r',d',x'⟩ ⟨G,hN⟩ hR l hl;have A:Hid (∀b,(Kw b/\b<w.heap.size)->b<w.heap.size):=aa λb h=>h.2;have C:Hid (∀k∈ [g],k<w.heap.size):=aa λk hk=>by rw[ar.1 hk];exact lg
  have D:=aa lg;have F:=aa lh;have ax:=G.inv.1;have ab:=aa ax;have ay:=aa hN
  ((repeat (first|(have x:=Jm.hk hl;clear hl;obtain⟨_,rfl,hl⟩:=x)|(have x:=Jm.ha hl;clear hl;obtain⟨_,_,rfl,hl⟩:=x)));(have x:=Jm.hn hl;clear hl;subst x))
  clear hN ax HF lg lh h;rcases G.inv.2 with⟨I,rfl,rfl,rfl⟩|⟨I,U,e,rfl,rfl,rfl⟩|⟨k,I,Y,U,hk,rfl,rfl,rfl⟩|⟨k,I,U,e,ht,K,hk,a,Y,rfl,rfl,rfl⟩|⟨I,U,e,ht,K,Q⟩
  .have HP:=aa I;clear I G;refine go ?_;refine T.rl 3 (.pointer (some ⟨gh,0,none⟩)) (λW _ a=>by obtain⟨J,n,_⟩:=a.B;exact n.uu a.ok) ?_;refine T.one 4 (TO.rk (v:= .bool false) (λW _ a=>(xV E gh s2.eB W a.eB).mono λr u ⟨e,f⟩=>⟨by rw[e,HP.o];rfl,f▸aw _ _⟩) ?_);refine TE.zc λW c=>⟨_,_,rfl,zW (c.en _ (ah (i:=1) rfl)),⟨rfl,c.q0.mono λb h=>h.1⟩,c.base⟩
  .have HP:=aa I;have H0:=aa U;have H1:=aa e;clear I U e G;refine go ?_;refine T.rl 3 (.pointer (some ⟨gh,0,none⟩)) (λW _ a=>by obtain⟨J,n,_⟩:=a.B;exact n.uu a.ok) ?_;refine T.one 4 (TO.rk (v:= .bool true) (λW _ a=>(xV E gh s2.eB W a.eB).mono λr u ⟨e,f⟩=>⟨by rw[e];simp[HP.o],f▸aw _ _⟩) ?_);refine T.one 3 (TO.re (λ(_:Unit) V=>gU (λb=>Kw b/\b<w.heap.size) E V g gh s2) [g] (vf:=λ_=> .tuple #[.string ⟨#[]⟩,.bool false,.nilIface]) (λW c a=>(Qv (M.o W c.base) a ab.o N.o H0.o H1.o).mono λr u ⟨e,f,j⟩=>⟨(),e,f.st (qU c D.o F.o A.o j C.o),j⟩) λ_ d=> ?_);refine TE.zc λW c=>⟨_,_,rfl,zW (c.en _ (ah (i:=1) rfl)),⟨rfl,c.q0.mono λb h=>h.1⟩,c.base⟩
  .have HP:=aa I;have H0:=aa U;have HM:Hid (Room {q with rs:=⟨#[]⟩}):=aa ⟨Y.wn,Y.out,Y.since⟩;have HK:=aa hk;clear I U Y hk G;refine go ?_;refine T.rl 3 (.pointer (some ⟨gh,0,none⟩)) (λW _ a=>by obtain⟨J,n,_⟩:=a.B;exact n.uu a.ok) ?_;refine T.one 4 (TO.rk (v:= .bool true) (λW _ a=>(xV E gh q.eB W a.eB).mono λr u ⟨e,f⟩=>⟨by rw[e];simp[HP.o],f▸aw _ _⟩) ?_);refine T.one 3 (TO.re (λp V=>FO E V g gh k (dl p) (dl p) {q with rs:=⟨#[]⟩}) [g] (vf:=λp=> .tuple #[.string ⟨#[]⟩,.bool false,.iface 82 (.pointer (some ⟨p,0,none⟩))]) (λW c a=>(Qu (M.o W c.base) a ab.o N.o k H0.o).mono λr u ⟨p,e,f,j⟩=>⟨p,e,f.st (qU c D.o F.o A.o j C.o),j⟩) λp d=> ?_);refine T.one 3 (TO.re (λp V=>uJ E V g gh k p (jy {q with rs:=⟨#[]⟩} k)) (vf:=dl) [g] (λW c a=>(GL (M.o W c.base) a HK.o HM.o N.o).mono λr u ⟨p,e,f,j⟩=>⟨p,e,f.st (qU c D.o F.o A.o j C.o),j⟩) λp5 d=> ?_);refine TE.zc λW c=>⟨_,_,rfl,zW (c.en _ (ah (i:=1) rfl)),⟨p5,rfl,c.qq⟩,c.base⟩
  .obtain⟨P,hP⟩:=eZ (strOfNums (dD q).2.2.1);rw[<-hP.o]at ht K a Y⊢;have HP:=aa I;have H0:=aa U;have H1:=aa e;have HT:=aa ht;have HE:=aa K;have HQ:=aa a;have HM:=aa Y;have HK:=aa hk;clear I U e ht K a Y hk G;refine go ?_;refine T.rl 3 (.pointer (some ⟨gh,0,none⟩)) (λW _ a=>by obtain⟨J,n,_⟩:=a.B;exact n.uu a.ok) ?_;refine T.one 4 (TO.rk (v:= .bool true) (λW _ a=>(xV E gh q.eB W a.eB).mono λr u ⟨e,f⟩=>⟨by rw[e];simp[HP.o],f▸aw _ _⟩) ?_);refine T.one 3 (TO.re (λ(_:Unit) V=>gU (λb=>Kw b/\b<w.heap.size) E V g gh (gM q)) [g] (vf:=λ_=> .tuple #[.string P,.bool true,.nilIface]) (λW c a=>(GC (M.o W c.base) a ab.o N.o H0.o H1.o).mono λr u ⟨e,f,j⟩=>⟨(),by rw[e,hP.o],f.st (qU c D.o F.o A.o j C.o),j⟩) λ_ d=> ?_);refine T.one 2 (TO.re (λ(x:TypeId×Value) V=>FO E V g gh k .nilIface (.iface x.1 x.2) (dF (gM q) P).1) [g] (vf:=λx=> .tuple #[.bool (dF (gM q) P).2.1,.iface x.1 x.2]) (λW c a=>(Qx (M.o W c.base) a N.o P HT.o k HE.o HQ.o).mono λr u ⟨x,e,f,j⟩=>⟨x,e,f.st (qU c D.o F.o A.o j C.o),j⟩) λx d=> ?_);refine T.one 3 (TO.re (λp V=>uJ E V g gh k p (jy (dF (gM q) P).1 k)) (vf:=dl) [g] (λW c a=>(GL (M.o W c.base) a HK.o HM.o N.o).mono λr u ⟨p,e,f,j⟩=>⟨p,e,f.st (qU c D.o F.o A.o j C.o),j⟩) λp5 d=> ?_);refine TE.zc λW c=>⟨_,_,rfl,zW (c.en _ (ah (i:=1) rfl)),⟨p5,rfl,c.qq⟩,c.base⟩
  .obtain⟨P,hP⟩:=eZ (strOfNums (dD q).2.2.1);have X:=aa (by rw[(uA (gM q) P).rs];exact Le e:(dF (gM q) P).1.rs.size<q.rs.size);rw[<-hP.o]at ht K Q;have HP:=aa I;have H0:=aa U;have H1:=aa e;have HT:=aa ht;have HE:=aa K;have HQ:=aa Q.rd;have TK:=aa (λW (c:ci [g,gh] w W) (a:gU (λb=>Kw b/\b<w.heap.size) E W g gh (gM q))=>Qy (M.o W c) a N.o P HT.o HE.o HQ.o);obtain⟨S,Z⟩:=aP ((dF (gM q) P).1);rw[<-Z]at TK X Q;cases hu:(dF (gM q) P).2.1
   all_goals
    rw[hu]at TK Q;simp only[if_true,if_false,Bool.false_eq_true]at Q;have HD:=aa Q;clear I U e ht K Q G Z hu HT HE HQ;refine go ?_;refine T.rl 3 (.pointer (some ⟨gh,0,none⟩)) (λW _ a=>by obtain⟨J,n,_⟩:=a.B;exact n.uu a.ok) ?_;refine T.one 4 (TO.rk (v:= .bool true) (λW _ a=>(xV E gh q.eB W a.eB).mono λr u ⟨e,f⟩=>⟨by rw[e];simp[HP.o],f▸aw _ _⟩) ?_);refine T.one 3 (TO.re (λ(_:Unit) V=>gU (λb=>Kw b/\b<w.heap.size) E V g gh (gM q)) [g] (vf:=λ_=> .tuple #[.string P,.bool true,.nilIface]) (λW c a=>(GC (M.o W c.base) a ab.o N.o H0.o H1.o).mono λr u ⟨e,f,j⟩=>⟨(),by rw[e,hP.o],f.st (qU c D.o F.o A.o j C.o),j⟩) λ_ d=> ?_);refine T.one 2 (TO.re (λ(_:Unit) V=>gU (λb=>Kw b/\b<w.heap.size) E V g gh S) [g] (vf:=λ_=> .tuple #[.bool _,.nilIface]) (λW c a=>(TK.o W c.base a).mono λr u ⟨e,f,j⟩=>⟨(),e,f.st (qU c D.o F.o A.o j C.o),j⟩) λ_ d=> ?_)
   .exact hR ⟨S,l',_,_,x'⟩ _ _ ⟨HD.o,by have:l'.length+q.rs.size<=1000000:=ay.o;have:=X.o;show l'.length+S.rs.size<=1000000;omega⟩ X.o (by((repeat (first|apply Jm.known|apply Jm.any));exact Jm.nil)) ⟨_,rfl⟩
   .refine T.one 2 (TO.news (z:=1) λb=> ?_);have az:=aa (show l'.length+S.rs.size+1<=1000000 by have:l'.length+q.rs.size<=1000000:=ay.o;have:=X.o;omega);refine T.one 3 (TO.app 1 2 (hl:=by rw[aM];have:=az.o;omega) λx=> ?_);exact hR ⟨S,l'++ [P],_,_,x⟩ _ _ ⟨HD.o,by have:=az.o;show(l'++ [P]).length+S.rs.size<=1000000;rw[am];show l'.length+1+S.rs.size<=1000000;omega⟩ X.o (by((repeat (first|apply Jm.known|apply Jm.any));exact Jm.nil)) ⟨_,by rw[cN];rfl⟩
end
structure fe where
 c:aX
 s:aX
 mE:ByteArray
 ma:ByteArray
 mW:List ByteArray
 mX:List ByteArray
 qA:Option Nat
 qB:Option Nat
def pb(s:aX):aX:={s with out:=⟨#[]⟩}
def cU(p:fe):fe:={p with ma:=p.ma++p.c.out,mE:=p.mE++p.s.out,c:=pb p.c,s:=pb p.s}
def th:Option Nat->Option Nat->Option Nat
 |none,b=>b
 |some k,_=>some k
def kg(n:Nat)(t:ByteArray):ByteArray:=t.extract 0 (min n t.size)
def hG(n:Nat)(t:ByteArray):ByteArray:=t.extract (min n t.size) t.size
def FR(b:Bool)(n:Nat)(p a:fe):Prop:=
 if b then∃s2 l o,xQ p.s (kg n p.ma) s2 l o/\a=cU {p with s:=s2,ma:=hG n p.ma,mX:=p.mX++l,qB:=th p.qB o}
 else∃s2 l o,xQ p.c (kg n p.mE) s2 l o/\a=cU {p with c:=s2,mE:=hG n p.mE,mW:=p.mW++l,qA:=th p.qA o}
structure fU(p:fe):Prop where
 mE:p.mE.size<=1000000000
 ma:p.ma.size<=1000000000
 co:p.c.out.size<=1000000000
 so:p.s.out.size<=1000000000
 gC:p.mW.length<=1000000
 gS:p.mX.length<=1000000
def oZ(i:Nat)(p:fe):Bool:=decide (p.ma.size≠0)&&(decide (i %2=0)||decide (p.mE.size=0))
def iK(N:Nat->Prop):Nat->Nat->fe->fe->Prop
 |0,_,p,R=>(fU p/\fU (cU p))/\(cU p).ma.size=0/\(cU p).mE.size=0/\R=cU p
 |k+1,i,p,R=>(fU p/\fU (cU p))/\(((cU p).ma.size=0/\(cU p).mE.size=0/\R=cU p)\/(¬((cU p).ma.size=0/\(cU p).mE.size=0)/\ ∀n,N n-> ∃a,FR (oZ i (cU p)) n (cU p) a/\iK N k (i+1) a R))
theorem iK.sz{N:Nat->Prop}{k i:Nat}{p R:fe}(h:iK N k i p R):fU p/\fU (cU p):=by cases k<;>exact h.1
theorem yo(p:fe):cU (cU p)=cU p:=by
 show({cU p with ma:=(p.ma++p.c.out)++⟨#[]⟩,mE:=(p.mE++p.s.out)++⟨#[]⟩,c:=pb p.c,s:=pb p.s}:fe)=_;rw[dT,dT]
 rfl
theorem GG(a:bB)(z m:Nat)(hz:z<=a.size)(hm:m<=a.size -z):(a.extract z a.size).extract m (a.extract z a.size).size=a.extract (z+m) a.size:=mv (by rw[gQ,gQ,gQ,List.drop_drop])
theorem GH(a d:bB)(y:Nat)(b:y<=a.size):a.extract y a.size++d=(a++d).extract y (a++d).size:=mv (by rw[gP,gQ,gQ,gP,gG (by rw[aj];exact b)])
theorem p9(a:bB)(z:Nat)(hz:z<=a.size):(a.extract z a.size).size=a.size -z:=by rw[<-aj,gQ,bK,aj]
structure Fits(tC tS:mc)(aC aS:ByteArray):Prop where
 okC:tC.Ok
 okS:tS.Ok
 rdC:tC.Rd
 rdS:tS.Rd
 aa5:∀y,∃r,bI (aC++tC.out y)++r=tS.all
 aa6:∀z,∃r,bI (aS++tS.out z)++r=tC.all
 upC:∀y,(tC.I6 y).length<=1000000
 upS:∀z,(tS.I6 z).length<=1000000
 fix:∀y z,(aC++tC.out y).size=z->(aS++tS.out z).size=y->y=tC.all.length/\z=tS.all.length
def oB(tC tS:mc)(aC aS:ByteArray)(y z:Nat):fe:=⟨pb (tC.at_ y),pb (tS.at_ z),(aS++tS.out z).extract y (aS++tS.out z).size,(aC++tC.out y).extract z (aC++tC.out y).size,tC.I6 y,tS.I6 z,none,none⟩
section
variable {tC tS:mc}{aC aS:ByteArray}
theorem Fits.szC(h:Fits tC tS aC aS)(y:Nat):(aC++tC.out y).size<=tS.all.length:=by
 obtain⟨r,a⟩:=h.aa5 y;rw[<-a,am,aj];omega
theorem Fits.szS(h:Fits tC tS aC aS)(z:Nat):(aS++tS.out z).size<=tC.all.length:=by
 obtain⟨r,a⟩:=h.aa6 z;rw[<-a,am,aj];omega
theorem Fits.sz(h:Fits tC tS aC aS){y z:Nat}(a:y<=(aS++tS.out z).size)(hz:z<=(aC++tC.out y).size):fU (oB tC tS aC aS y z):=by
 have b:=h.szC y;have c:=h.szS z;have d:=h.rdC.size;have e:=h.rdS.size;have f:=p9 _ _ a;have g:=p9 _ _ hz;exact⟨by show((aS++tS.out z).extract y (aS++tS.out z).size).size<=_;omega,by show((aC++tC.out y).extract z (aC++tC.out y).size).size<=_;omega,by show 0<=_;omega,by show 0<=_;omega,h.upC y,h.upS z⟩
theorem SC(h:Fits tC tS aC aS):∀(k y z i:Nat) (p:fe),(tC.all.length -y)+(tS.all.length -z)<=k->y<=(aS++tS.out z).size->z<=(aC++tC.out y).size->cU p=oB tC tS aC aS y z->fU p->
 iK (1<= ·) k i p (oB tC tS aC aS tC.all.length tS.all.length):=by
 intro k
 induction k with
 |zero=>
  intro y z i p K g j f u;have L:=h.szC y;have M:=h.szS z;have v:y=tC.all.length:=af;have w:z=tS.all.length:=af;have G:=p9 _ _ g;have H:=p9 _ _ j;refine⟨⟨u,by rw[f];exact h.sz g j⟩,?_,?_,?_⟩
  .rw[f];show((aC++tC.out y).extract z (aC++tC.out y).size).size=0;omega
  .rw[f];show((aS++tS.out z).extract y (aS++tS.out z).size).size=0;omega
  .rw[f,v,w]
 |succ k I=>
  intro y z i p K g j f u;have L:=h.szC y;have M:=h.szS z;have G:=p9 _ _ g;have H:=p9 _ _ j;refine⟨⟨u,by rw[f];exact h.sz g j⟩,?_⟩;have N:(cU p).ma.size=(aC++tC.out y).size -z:=by rw[f];exact H
  have O:(cU p).mE.size=(aS++tS.out z).size -y:=by rw[f];exact G
  by_cases b:(cU p).ma.size=0/\(cU p).mE.size=0
  .left
   obtain⟨v,w⟩:=h.fix y z af af;exact⟨b.1,b.2,by rw[f,v,w]⟩
  .right
   refine⟨b,λn R=> ?_⟩;cases l:oZ i (cU p)with
   |true=>
    have x:(cU p).ma.size≠0:=by
     unfold oZ at l;rw[Bool.and_eq_true]at l;exact qy l.1
    obtain⟨m,o⟩:=aP (min n ((aC++tC.out y).extract z (aC++tC.out y).size).size);obtain⟨r,A⟩:=h.aa5 y
    have B:bI (kg n ((aC++tC.out y).extract z (aC++tC.out y).size))=(tS.all.drop z).take m:=by
     unfold kg;rw[<-o,oh,gQ,nT,Nat.sub_zero,<-A,gG (by rw[aj];exact j),jD (by rw[bK,aj];omega)]
    obtain⟨d,e,C,D,E⟩:=mc.fed h.okS h.rdS z m _ af B;have a:aS++tS.out (z+m)=aS++tS.out z++d:=by rw[D,lA]
    have q:cU {oB tC tS aC aS y z with s:={tS.at_ (z+m)with out:=d},ma:=hG n ((aC++tC.out y).extract z (aC++tC.out y).size),mX:=tS.I6 z++e,qB:=none}=oB tC tS aC aS y (z+m):=by
     have F:hG n ((aC++tC.out y).extract z (aC++tC.out y).size)=(aC++tC.out y).extract (z+m) (aC++tC.out y).size:=by
      unfold hG;rw[<-o];exact GG _ _ _ j af
     have t:=GH (aS++tS.out z) d y g;rw[<-a]at t;show(⟨pb (tC.at_ y),pb (tS.at_ (z+m)),(aS++tS.out z).extract y (aS++tS.out z).size++d,hG n ((aC++tC.out y).extract z (aC++tC.out y).size)++⟨#[]⟩,tC.I6 y,tS.I6 z++e,none,none⟩:fe)=_;rw[t,F,dT,<-E]
     rfl
    refine⟨_,?_,I y (z+m) (i+1) _ af ?_ ?_ ?_ (h.sz (y:=y) (z:=z+m) ?_ ?_)⟩
    .show FR true n (cU p) (oB tC tS aC aS y (z+m));rw[f];exact⟨_,e,none,C,q.symm⟩
    .rw[a,aN];omega
    .omega
    .rw[<-q,yo]
    .rw[a,aN];omega
    .omega
   |false=>
    have x:(cU p).mE.size≠0:=λJ=>by
     have P:(cU p).ma.size≠0:=λQ=>b ⟨Q,J⟩;unfold oZ at l;rw[J,fj P]at l;simp at l
    obtain⟨m,o⟩:=aP (min n ((aS++tS.out z).extract y (aS++tS.out z).size).size);obtain⟨r,A⟩:=h.aa6 z
    have B:bI (kg n ((aS++tS.out z).extract y (aS++tS.out z).size))=(tC.all.drop y).take m:=by
     unfold kg;rw[<-o,oh,gQ,nT,Nat.sub_zero,<-A,gG (by rw[aj];exact g),jD (by rw[bK,aj];omega)]
    obtain⟨d,e,C,D,E⟩:=mc.fed h.okC h.rdC y m _ af B;have a:aC++tC.out (y+m)=aC++tC.out y++d:=by rw[D,lA]
    have q:cU {oB tC tS aC aS y z with c:={tC.at_ (y+m)with out:=d},mE:=hG n ((aS++tS.out z).extract y (aS++tS.out z).size),mW:=tC.I6 y++e,qA:=none}=oB tC tS aC aS (y+m) z:=by
     have F:hG n ((aS++tS.out z).extract y (aS++tS.out z).size)=(aS++tS.out z).extract (y+m) (aS++tS.out z).size:=by
      unfold hG;rw[<-o];exact GG _ _ _ g af
     have t:=GH (aC++tC.out y) d z j;rw[<-a]at t;show(⟨pb (tC.at_ (y+m)),pb (tS.at_ z),hG n ((aS++tS.out z).extract y (aS++tS.out z).size)++⟨#[]⟩,(aC++tC.out y).extract z (aC++tC.out y).size++d,tC.I6 y++e,tS.I6 z,none,none⟩:fe)=_;rw[t,F,dT,<-E]
     rfl
    refine⟨_,?_,I (y+m) z (i+1) _ af ?_ ?_ ?_ (h.sz (y:=y+m) (z:=z) ?_ ?_)⟩
    .show FR false n (cU p) (oB tC tS aC aS (y+m) z);rw[f];exact⟨_,e,none,C,q.symm⟩
    .omega
    .rw[a,aN];omega
    .rw[<-q,yo]
    .omega
    .rw[a,aN];omega
end
theorem nL{a b:Nat}(h:Nat.ble a b=true):a<=b:=Nat.le_of_ble_eq_true h
theorem E4{a b:Int}{P:Prop}(h:decide (a=b)=false)(e:a=b):P:=absurd e (of_decide_eq_false h)
theorem iN(b:Bool)(a:aR)(n:Nat)(ws:aR)(c:ws.length<=32768):(aV b a n ws).length<=40000:=by
 have:=oK b ws.length;rw[jM];unfold se vQ
 split<;>omega
theorem Bu(k:aR):∀(n:Nat) (W:eL),(∀p∈W,p.size<=32768)->(ka k n W).length<=40000*W.length
 |_,[],_=>ak _
 |n,p::r,h=>by
  have b:=Bu k (n+1) r (λq a=>h q (cj _ a));have c:=iN true k n (bI p) (by rw[aj];exact h p (jg ..));show(aV true k n (bI p)++ka k (n+1) r).length<=40000*(r.length+1);rw[am];omega
theorem Kj(n:Nat):dn (eE n):=⟨dV _ _ _ _,cm (oV n)⟩
theorem ZI(l:aR):dn (mj false l):=⟨eG _ _,cm (kY _ _)⟩
theorem Kg(l:aR):dn (lX l):=⟨mN _,cm (A6 _)⟩
theorem IM(a b:aR):dn (eP a b 32):=by
 refine⟨?_,cm (λz c=>ya _ _ z (dW c))⟩;unfold eP;rw[aO,np]
 rfl
structure Xk(s:aX):Prop where
 gone:s.gone=false
 room:oO s
 rn1:1<=s.rn
 rn:s.rn<=1000000000
 pm:s.pm.size<=64
 UG:te s.on
 ZY:rx {s with since:=0}
 c7:s.c7<=1000000000
theorem lM{s:aX}{p:bB}{c:de}(e:fk p= .inl c)(hz:p.size<=32768)(b:Xk s)(f:c.kind=20->Jj s c)(g:c.kind=30->Pl s c)(h:c.kind=31->Po s c):iF s p:=
 ⟨hz,b.gone,b.room,b.rn1,b.rn,b.pm,b.UG,b.ZY,b.c7,λm a d=>by rw[e]at a;injection a with a;subst a;exact f d,λm a d=>by rw[e]at a;injection a with a;subst a;exact g d,λm a d=>by rw[e]at a;injection a with a;subst a;exact h d⟩
structure Am(W:List ByteArray):Prop where
 pay:∀p∈W,FQ p
 len:W.length<=8
theorem Am.nil:Am []:=⟨λp h=>(by cases h),an⟩
structure jw(f:Fix):Prop where
 sdC:f.kJ.size<=64
 sdS:f.kU.size<=64
 host:dn f.host
section
variable {f:Fix}
theorem bw.Og(h:bw f):f.wL.size<=48:=by
 show(fH++f.ml).size<=48;rw[aN];have:=h.sC;show 8+_<=48;omega
theorem bw.Oh(h:bw f):f.wM.size<=48:=by
 show(fH++f.lT).size<=48;rw[aN];have:=h.sS;show 8+_<=48;omega
theorem bw.Yb(h:bw f):dn f.vy:=by rw[<-h.vy];exact IM _ _
theorem bw.aap(h:bw f):dn f.yO:=by rw[<-h.yO];exact IM _ _
theorem bw.bPC(h:bw f):dn f.pC:=by rw[<-h.pC];exact Kj _
theorem bw.bPS(h:bw f):dn f.pS:=by rw[<-h.pS];exact Kj _
theorem bw.Yc(h:bw f):dn f.sec:=by rw[<-h.sec];exact Kj _
theorem bw.Cf(h:bw f):dn f.key:=by rw[<-h.key];exact Kg _
theorem bw.Db(h:bw f):dn f.hash:=by rw[<-h.hash];exact ZI _
theorem bK0:dn f.k0:=mK _ _ _ _
theorem bK1:dn f.k1:=mK _ _ _ _
theorem bw.Z8(h:bw f):f.vC.size=140:=rM h.NK
theorem bw.Z9(h:bw f):f.vW.size=140:=rM h.NL
theorem bw.aaX(h:bw f)(a:aR)(b:dn a)(W:eL):bC (f.ch a W):=⟨dn.av,b,dn.av,dn.av,dn.av,dn.av,dn.av,dn.av,dn.av,dn.av,dn.av,dn.av,dn.av,dn.av⟩
theorem bw.aaW(h:bw f)(a:aR)(b:dn a)(W:eL):bC (f.c0 a W):=⟨dn.av,b,dn.av,dn.av,dn.av,dn.av,dn.av,dn.av,dn.av,dn.av,dn.av,dn.av,dn.av,dn.av⟩
theorem bw.Zj(h:bw f)(a:aR)(b:dn a)(W:eL):bC (f.c1 a W):=⟨dn.av,b,dn.av,dn.av,h.Yb,h.bPC,dn.av,dn.av,dn.av,dn.av,dn.av,dn.av,dn.av,dn.av⟩
theorem bw.ab2(h:bw f)(a:aR)(b:dn a)(W:eL):bC (f.c2 a W):=⟨dn.av,b,bK0,dn.av,h.Yb,h.bPC,h.bPS,h.Yc,bK0,bK1,h.Db,h.Cf,dn.av,dn.av⟩
theorem bw.ab3(h:bw f)(a:aR)(b:dn a)(n:Nat):bC (f.c3 a n):=⟨dn.av,b,bK0,bK1,dn.av,dn.av,dn.av,dn.av,dn.av,dn.av,dn.av,dn.av,h.Db,h.Cf⟩
theorem bC.acd{s:aX}(a:bC s)(n:Nat)(r o:bB):bC {s with rn:=n,rs:=r,out:=o}:=⟨a.host,a.rZ,a.wk,a.rk,a.iv,a.nv,a.mh,a.iH,a.lQ,a.lR,a.gA,a.iG,a.id,a.key⟩
theorem ju.of{s:aX}(a:bC s)(b:s.gone=false)(c:s.rn<=1000000000):ju {s with rs:=⟨#[]⟩}:=
 ⟨ce _,c,⟨a.host,a.rZ,a.wk,a.rk,a.iv,a.nv,a.mh,a.iH,a.lQ,a.lR,a.gA,a.iG,a.id,a.key⟩,b⟩
theorem Am.ZY{W:eL}(c:Am W){s:aX}(a:s.waits=W)(he:s.every=0)(d:s.gone=false)(e:s.wn<=1000)(f:s.out.size<=100000000):rx {s with since:=0}:=by
 have g:=c.len;refine⟨he,d,?_,?_,?_,?_⟩
 .show s.wn+s.waits.length<=_;rw[a];omega
 .show s.out.size+40000*s.waits.length<=_;rw[a];omega
 .show 0+s.waits.length<=_;rw[a];omega
 .intro p b;have b:p∈s.waits:=b;rw[a]at b;have:=c.pay p b;exact⟨this.pos,this.size⟩
theorem nE{W:eL}(c:Am W){s:aX}(d:s.waits=W)(he:s.every=0)(b:s.gone=false)(e:s.wn<=1000)(g:s.since<=1000)(h:s.rn<=1000)(a:s.pm.size<=64)(hz:te s.on)(i:s.c7<=1000)(x o:bB)(f:o.size<=100000000):Xk {s with rn:=s.rn+1,rs:=x,out:=o}:=
 ⟨b,⟨by show s.wn<=_;omega,by show o.size<=_;omega,by show s.since<=_;omega⟩,by show 1<=s.rn+1;omega,by show s.rn+1<=_;omega,a,hz,c.ZY (s:={s with rn:=s.rn+1,rs:=x,out:=o}) d he b e f,by show s.c7<=_;omega⟩
theorem UH:te ti:=⟨nL rfl,nL rfl,nL rfl,nL rfl,nL rfl⟩
theorem bw.Pg(h:bw f)(b:jw f)(a:aR){W:eL}(c:Am W)(x o:bB)(d:o.size<=100000000):iF {f.ch a W with rn:=(f.ch a W).rn+1,rs:=x,out:=o} (strOfNums (bI f.vW)):=by
 rw[fq];refine lM (dZ (oJ h.NL)) (by rw[h.Z9];decide) (nE c rfl rfl rfl (nL rfl) (nL rfl) (nL rfl) b.sdC ⟨nL rfl,nL rfl,nL rfl,nL rfl,nL rfl⟩ (nL rfl) x o d) (λ_ _=> ?_) (λe=>E4 rfl e) (λe=>E4 rfl e);refine⟨rfl,iZ f.BT,dZ (oJ h.NK),rfl,?_,.inr ⟨rfl,rfl⟩⟩;show f.vC.size<=32768;rw[h.Z8];decide
theorem bw.wA(h:bw f):te f.Az:=⟨by show f.wL.size<=_;have:=h.Og;omega,by show f.wM.size<=_;have:=h.Oh;omega,by show f.vC.size<=_;rw[h.Z8];decide,by show f.vW.size<=_;rw[h.Z9];decide,nL rfl⟩
theorem bw.abS(h:bw f):te f.aas:=⟨h.wA.l0,h.wA.l1,h.wA.i0,h.wA.i1,by show(dB f.key).size<=_;rw[eX 32 h.Cs];decide⟩
theorem bw.abT(h:bw f):te f.Ll:=⟨h.wA.l0,h.wA.l1,h.wA.i0,h.wA.i1,nL rfl⟩
theorem bw.aaI(h:bw f):te f.abb:=⟨h.wA.l0,h.wA.l1,h.wA.i0,h.wA.i1,by show(dB f.key).size<=_;rw[eX 32 h.Cs];decide⟩
theorem bw.tC2(h:bw f)(d:jw f){W:eL}(g:Am W)(x o:bB)(i:o.size<=100000000):iF {f.c1 f.key W with rn:=(f.c1 f.key W).rn+1,rs:=x,out:=o} (strOfNums (bI (db f.zx))):=by
 rw[fq];have a:bI (strOfNums f.pS)=f.pS:=cJ h.pSm;have b:bI (strOfNums f.key)=f.key:=cJ h.Kh;have c:bI (strOfNums f.sig)=f.sig:=cJ h.OR;refine lM (dZ h.WT) (by rw[h.z31];decide) (nE g rfl rfl rfl (nL rfl) (nL rfl) (nL rfl) d.sdC h.wA (nL rfl) x o i) (λe=>E4 rfl e) (λe=>E4 rfl e) (λ_ _ _=> ?_);refine⟨rfl,dB f.key,strOfNums f.pS,dB f.sig,rfl,by rw[eX 32 h.Cs];decide,by rw[eX 64 h.IK];decide,.inr ⟨strOfNums f.key,strOfNums f.sig,ko 32 9 h.Cs h.Kh an,ko 64 10 h.IK h.OR an,by rw[bG,h.Z3],?_,.inr ⟨b,?_⟩⟩⟩
 .show di f.vy (bI (strOfNums f.pS))≠0;rw[a,h.zC];exact h.ne
 .show je (bI (strOfNums f.key)) (fQ {f.Az with p1:=bI (strOfNums f.pS),sec:=eE (di f.vy (bI (strOfNums f.pS))),hb:=dB f.key}) (bI (strOfNums f.sig))=true;rw[a,b,c,h.zC,h.sec,h.ex2];exact h.fits
theorem bw.tC3(h:bw f)(a:jw f){W:eL}(b:Am W)(x o:bB)(c:o.size<=100000000):iF {f.c2 f.key W with rn:=(f.c2 f.key W).rn+1,rs:=x,out:=o} (strOfNums (bI (db m21))):=by
 rw[fq];exact lM (dZ Tq) (by rw[z21];decide) (nE b rfl rfl rfl (nL rfl) (nL rfl) (nL rfl) a.sdC h.abS (nL rfl) x o c) (λe=>E4 rfl e) (λe=>E4 rfl e) (λe=>E4 rfl e)
def Fix.LC(f:Fix)(W:List ByteArray):List uK:= [⟨bI f.vW,false,strOfNums (aV false av 1 (bI (db f.tn))),f.c1 f.key W⟩,⟨bI (db f.zx),false,strOfNums (aV false av 2 (bI (db m21))),f.c2 f.key W⟩,⟨bI (db m21),false,strOfNums (ka f.k0 3 W),f.c3 f.key W.length⟩]
def Fix.tC(f:Fix)(W:List ByteArray):mc:=⟨f.c0 f.key W,f.wM,f.LC W⟩
theorem bw.chC(h:bw f)(W:eL):sP (f.ch f.key W) (f.LC W):=⟨Xy h f.key W,aaE h W,aaF h W,trivial⟩
theorem bw.ab4(h:bw f)(b:jw f){W:eL}(c:Am W):Pt (f.ch f.key W) (f.LC W):=
 ⟨ju.of (h.aaX f.key h.Cf W) rfl (nL rfl),λx o _ a=>h.Pg b f.key c x o a,ju.of (h.Zj f.key h.Cf W) rfl (by show 1<=1000000000;decide),λx o _ a=>h.tC2 b c x o a,ju.of (h.ab2 f.key h.Cf W) rfl (by show 2<=1000000000;decide),λx o _ a=>h.tC3 b c x o a,ju.of (h.ab3 f.key h.Cf W.length) rfl (by show 3<=1000000000;decide)⟩
theorem bw.aaY(h:bw f)(a:jw f):bC f.s0:=⟨a.host,dn.av,dn.av,dn.av,dn.av,dn.av,dn.av,dn.av,dn.av,dn.av,dn.av,dn.av,dn.av,dn.av⟩
theorem bw.aa0(h:bw f)(a:jw f):bC f.sh:=⟨a.host,dn.av,dn.av,dn.av,dn.av,dn.av,dn.av,dn.av,dn.av,dn.av,dn.av,dn.av,dn.av,dn.av⟩
theorem bw.Zk(h:bw f)(a:jw f):bC f.s1:=⟨a.host,dn.av,dn.av,dn.av,h.aap,dn.av,h.bPS,dn.av,dn.av,dn.av,dn.av,dn.av,dn.av,dn.av⟩
theorem bw.VN(h:bw f)(a:jw f):bC f.s2:=⟨a.host,dn.av,bK1,dn.av,h.aap,h.bPC,h.bPS,h.Yc,bK0,bK1,h.Db,h.Cf,dn.av,dn.av⟩
theorem bw.aaZ(h:bw f)(a:jw f)(n:Nat):bC (f.s3 n):=⟨a.host,dn.av,bK1,bK0,dn.av,dn.av,dn.av,dn.av,dn.av,dn.av,dn.av,dn.av,h.Db,h.Cf⟩
theorem bw.Tc(h:bw f)(a:jw f)(x o:bB)(b:o.size<=100000000):iF {f.sh with rn:=f.sh.rn+1,rs:=x,out:=o} (strOfNums (bI f.vC)):=by
 rw[fq];refine lM (dZ (oJ h.NK)) (by rw[h.Z8];decide) (nE Am.nil rfl rfl rfl (nL rfl) (nL rfl) (nL rfl) a.sdS ⟨nL rfl,nL rfl,nL rfl,nL rfl,nL rfl⟩ (nL rfl) x o b) (λ_ _=> ?_) (λe=>E4 rfl e) (λe=>E4 rfl e);refine⟨rfl,iZ f.AB,dZ (oJ h.NL),rfl,?_,.inr ⟨rfl,rfl⟩⟩;show f.vW.size<=32768;rw[h.Z9];decide
theorem bw.tS2(h:bw f)(b:jw f)(x o:bB)(c:o.size<=100000000):iF {f.s1 with rn:=f.s1.rn+1,rs:=x,out:=o} (strOfNums (bI (db f.tn))):=by
 rw[fq];have a:bI (strOfNums f.pC)=f.pC:=cJ h.pCm;refine lM (dZ h.abi) (by rw[h.z30];decide) (nE Am.nil rfl rfl rfl (nL rfl) (nL rfl) (nL rfl) b.sdS h.abT (nL rfl) x o c) (λe=>E4 rfl e) (λ_ _ _ _=> ?_) (λe=>E4 rfl e);refine⟨strOfNums f.pC,rfl,λ_=> ?_⟩;show di f.yO (bI (strOfNums f.pC))≠0;rw[a,h.IJ];exact h.ne
theorem bw.tS3(h:bw f)(a:jw f)(x o:bB)(b:o.size<=100000000):iF {f.s2 with rn:=f.s2.rn+1,rs:=x,out:=o} (strOfNums (bI (db m21))):=by
 rw[fq];exact lM (dZ Tq) (by rw[z21];decide) (nE Am.nil rfl rfl rfl (nL rfl) (nL rfl) (nL rfl) a.sdS h.aaI (nL rfl) x o b) (λe=>E4 rfl e) (λe=>E4 rfl e) (λe=>E4 rfl e)
theorem bw.tSp(h:bw f)(c:jw f)(n:Nat)(j:n<=900)(p:bB)(b:FQ p)(x o:bB)(d:o.size<=100000000):iF {f.s3 n with rn:=(f.s3 n).rn+1,rs:=x,out:=o} (strOfNums (bI p)):=by
 rw[fq];obtain⟨m,g,i⟩:=b.kind;have a:=Ip i;exact lM g b.size (nE Am.nil rfl rfl rfl (by show 3<=1000;decide) (by show 0<=1000;decide) (by show 3+n<=1000;omega) c.sdS UH (by show 1<=1000;decide) x o d) (λe=>absurd e a.2.2.1) (λe=>absurd e a.2.2.2.1) (λe=>absurd e a.2.2.2.2.1)
def Fix.LP(f:Fix):Nat->List ByteArray->List uK
 |_,[]=> []
 |n,p::r=>⟨bI p,true,⟨#[]⟩,f.s3 (n+1)⟩::f.LP (n+1) r
def Fix.dS(f:Fix):ByteArray:=strOfNums (aV false av 1 (bI (db f.zx)))++strOfNums (aV false av 2 (bI (db m21)))
def Fix.LS(f:Fix)(W:List ByteArray):List uK:=⟨bI f.vC,false,⟨#[]⟩,f.s1⟩::⟨bI (db f.tn),false,f.dS,f.s2⟩::⟨bI (db m21),false,⟨#[]⟩,f.s3 0⟩::f.LP 0 W
def Fix.tS(f:Fix)(W:List ByteArray):mc:=⟨f.s0,f.wL,f.LS W⟩
theorem bw.chP(h:bw f):∀(n:Nat) (W:List ByteArray),(∀p∈W,FQ p)->sP (f.s3 n) (f.LP n W)
 |_,[],_=>trivial
 |n,p::r,a=>⟨YD h n p (a p (jg ..)),h.chP (n+1) r (λq b=>a q (cj _ b))⟩
theorem bw.chS(h:bw f){W:eL}(a:Am W):sP f.sh (f.LS W):=⟨Xz h,XA h,aaG h,h.chP 0 W a.pay⟩
theorem bw.aa1(h:bw f)(b:jw f):∀(W:List ByteArray) (n:Nat),n+W.length<=900->(∀p∈W,FQ p)->Pt (f.s3 n) (f.LP n W)
 | [],n,a,_=>ju.of (h.aaZ b n) rfl (by show 3+n<=1000000000;simp at a;omega)
 |p::r,n,a,c=>⟨ju.of (h.aaZ b n) rfl (by show 3+n<=1000000000;simp at a;omega),λx o _ d=>h.tSp b n (by simp at a;omega) p (c p (jg ..)) x o d,h.aa1 b r (n+1) (by simp at a;omega) (λq e=>c q (cj _ e))⟩
theorem bw.ab5(h:bw f)(a:jw f){W:eL}(c:Am W):Pt f.sh (f.LS W):=
 ⟨ju.of (h.aa0 a) rfl (nL rfl),λx o _ b=>h.Tc a x o b,ju.of (h.Zk a) rfl (by show 1<=1000000000;decide),λx o _ b=>h.tS2 a x o b,ju.of (h.VN a) rfl (by show 2<=1000000000;decide),λx o _ b=>h.tS3 a x o b,h.aa1 a W 0 (dp c.len) c.pay⟩
def ja:List uK->ByteArray
 | []=>⟨#[]⟩
 |e::r=>e.d++ja r
def zl:List uK->List ByteArray
 | []=> []
 |e::r=>(if e.up then[strOfNums e.ws]else[])++zl r
def yV:aX->List uK->aX
 |s,[]=>s
 |_,e::r=>yV e.nx r
theorem tY:∀L:List uK,qi L=(ja L).size
 | []=>rfl
 |e::r=>by show e.d.size+qi r=(e.d++ja r).size;rw[aN,tY r]
theorem Mf:∀(L:List uK) (s:aX) (m:Nat),∃r,(dI s L m).out++r=ja L
 | [],s,m=>⟨⟨#[]⟩,rfl⟩
 |e::r,s,m=>by
  by_cases a:m<(aV s.rb s.rk s.rn e.ws).length
  .rw[ng a];exact⟨ja (e::r),em _⟩
  .rw[jd a];obtain⟨x,b⟩:=Mf r e.nx (m -(aV s.rb s.rk s.rn e.ws).length);exact⟨x,by show(e.d++_)++x=e.d++ja r;rw[lA,b]⟩
theorem wq:∀(L:List uK) (s:aX),dI s L (chainB s L).length=⟨yV s L,[],zl L,ja L,[]⟩
 | [],s=>rfl
 |e::r,s=>by
  have a:(chainB s (e::r)).length=(aV s.rb s.rk s.rn e.ws).length+(chainB e.nx r).length:=by
   show(aV s.rb s.rk s.rn e.ws++chainB e.nx r).length=_;rw[am]
  rw[a,jd af,show(aV s.rb s.rk s.rn e.ws).length+(chainB e.nx r).length -(aV s.rb s.rk s.rn e.ws).length=(chainB e.nx r).length by omega,wq r e.nx]
  rfl
theorem Mg:∀(L:List uK) (s:aX) (m:Nat),(dI s L m).I6.length<=L.length
 | [],s,m=>ce _
 |e::r,s,m=>by
  by_cases a:m<(aV s.rb s.rk s.rn e.ws).length
  .rw[ng a];exact ce _
  .rw[jd a];have b:=Mg r e.nx (m -(aV s.rb s.rk s.rn e.ws).length);show((if e.up then[strOfNums e.ws]else[])++(dI e.nx r (m -(aV s.rb s.rk s.rn e.ws).length)).I6).length<=r.length+1;rw[am]
   split
   .rw[List.length_singleton];omega
   .rw[List.length_nil];omega
theorem mc.Nd(t:mc)(y:Nat):(t.I6 y).length<=t.L.length:=by
 unfold mc.I6
 split
 .exact ce _
 .exact Mg _ _ _
theorem mc.MI(t:mc)(y:Nat):∃r,t.out y++r=ja t.L:=by
 unfold mc.out
 split
 .exact⟨_,em _⟩
 .exact Mf _ _ _
theorem mc.full(t:mc):t.at_ t.all.length={yV t.s1 t.L with rs:=⟨#[]⟩}/\t.out t.all.length=ja t.L/\t.I6 t.all.length=zl t.L:=by
 have h:=t.Aq;have a:¬t.all.length<=t.head.length:=af;have e:t.all.length -(t.head.length+1)=(chainB t.s1 t.L).length:=af;refine⟨?_,?_,?_⟩
 .unfold mc.at_;rw[aq a,e,wq];rfl
 .unfold mc.out;rw[aq a,e,wq]
 .unfold mc.I6;rw[aq a,e,wq]
theorem Gl:∀(W:List ByteArray) (n:Nat),chainB (f.s3 n) (f.LP n W)=ka f.k0 (3+n) W
 | [],n=>rfl
 |p::r,n=>by
  show aV true f.k0 (3+n) (bI p)++chainB (f.s3 (n+1)) (f.LP (n+1) r)=aV true f.k0 (3+n) (bI p)++ka f.k0 (3+n+1) r;rw[Gl r (n+1)]
  rfl
theorem If:∀(W:List ByteArray) (n:Nat),ja (f.LP n W)=⟨#[]⟩
 | [],n=>rfl
 |p::r,n=>by show⟨#[]⟩++ja (f.LP (n+1) r)=_;rw[If r (n+1),em]
theorem Nc:∀(W:List ByteArray) (n:Nat),zl (f.LP n W)=W
 | [],n=>rfl
 |p::r,n=>by show[strOfNums (bI p)]++zl (f.LP (n+1) r)=p::r;rw[Nc r (n+1),fq];rfl
theorem Mu:∀(W:List ByteArray) (n:Nat),yV (f.s3 n) (f.LP n W)=f.s3 (n+W.length)
 | [],n=>rfl
 |p::r,n=>by
  show yV (f.s3 (n+1)) (f.LP (n+1) r)=f.s3 (n+(r.length+1));rw[Mu r (n+1),show n+1+r.length=n+(r.length+1) by omega]
theorem Pq:∀(W:List ByteArray) (n:Nat),(f.LP n W).length=W.length
 | [],n=>rfl
 |p::r,n=>by show(f.LP (n+1) r).length+1=r.length+1;rw[Pq r (n+1)]
def Fix.aC(f:Fix):ByteArray:=f.wL++iL++strOfNums (aV false av 0 (bI f.vC))
def Fix.aS(f:Fix):ByteArray:=f.wM++iL++strOfNums (aV false av 0 (bI f.vW))
theorem wX(b:Bool)(a:aR)(n:Nat)(p:bB):bI (strOfNums (aV b a n (bI p)))=aV b a n (bI p):=cJ (KW b a n _ (c8 p))
theorem D9(k:List Int):∀(n:Nat) (W:List ByteArray),∀z∈ka k n W,0<=z/\z<=255
 |_,[],z,a=>by cases a
 |n,p::r,z,a=>by
  rcases bT.1 (show z∈aV true k n (bI p)++ka k (n+1) r from a)with h|h
  .exact KW _ _ _ _ (c8 p) z h
  .exact D9 k (n+1) r z h
theorem head_map(t:bB)(l:aR):((t.data.toList++ [13]).map λb:UInt8=>(b.toNat:Int))++10::l=bI (t++iL)++l:=by
 rw[gP];unfold bI;simp[iL]
theorem LB(W:eL):(f.tS W).all=bI (f.aC++ja (f.LC W)):=by
 unfold mc.all mc.head;show((f.wL.data.toList++ [13]).map λb:UInt8=>(b.toNat:Int))++10::(aV false av 0 (bI f.vC)++(aV false av 1 (bI (db f.tn))++(aV false av 2 (bI (db m21))++chainB (f.s3 0) (f.LP 0 W))))=bI (f.wL++iL++strOfNums (aV false av 0 (bI f.vC))++(strOfNums (aV false av 1 (bI (db f.tn)))++(strOfNums (aV false av 2 (bI (db m21)))++(strOfNums (ka f.k0 3 W)++⟨#[]⟩))));rw[head_map,Gl,dT,gP (f.wL++iL++_),gP (f.wL++iL) _,wX,gP (strOfNums (aV false av 1 _)),wX,gP (strOfNums (aV false av 2 _)),wX,cJ (D9 _ _ _),bf]
theorem Bh(W:eL):ja (f.LS W)=f.dS:=by
 show⟨#[]⟩++(f.dS++(⟨#[]⟩++ja (f.LP 0 W)))=f.dS;rw[If,em,em,dT]
theorem Ly(W:eL):(f.tC W).all=bI (f.aS++ja (f.LS W)):=by
 rw[Bh];unfold mc.all mc.head;show((f.wM.data.toList++ [13]).map λb:UInt8=>(b.toNat:Int))++10::(aV false av 0 (bI f.vW)++(aV false av 1 (bI (db f.zx))++(aV false av 2 (bI (db m21))++ [])))=bI (f.wM++iL++strOfNums (aV false av 0 (bI f.vW))++(strOfNums (aV false av 1 (bI (db f.zx)))++strOfNums (aV false av 2 (bI (db m21)))));rw[head_map,bP,gP (f.wM++iL++_),gP (f.wM++iL) _,wX,gP (strOfNums (aV false av 1 _)),wX,wX,bf]
theorem bw.acn(h:bw f)(W:eL):(f.tC W).Ok:=⟨rfl,rfl,rfl,rfl,rfl,h.lfS,by show f.wM.size<250;have:=h.Oh;omega,h.A9,h.XI,h.chC W⟩
theorem bw.aco(h:bw f){W:eL}(a:Am W):(f.tS W).Ok:=⟨rfl,rfl,rfl,rfl,rfl,h.lfC,by show f.wL.size<250;have:=h.Og;omega,h.sA,h.XH,h.chS a⟩
theorem Xu:iL.size=2:=rfl
theorem bw.aCz(h:bw f):f.aC.size=f.wL.size+2+(aV false av 0 (bI f.vC)).length:=by
 show(f.wL++iL++strOfNums (aV false av 0 (bI f.vC))).size=_;rw[aN,aN,bG,Xu]
theorem bw.aSz(h:bw f):f.aS.size=f.wM.size+2+(aV false av 0 (bI f.vW)).length:=by
 show(f.wM++iL++strOfNums (aV false av 0 (bI f.vW))).size=_;rw[aN,aN,bG,Xu]
theorem dSz:f.dS.size=(aV false av 1 (bI (db f.zx))).length+(aV false av 2 (bI (db m21))).length:=by
 show(strOfNums (aV false av 1 (bI (db f.zx)))++strOfNums (aV false av 2 (bI (db m21)))).size=_;rw[aN,bG,bG]
theorem LCz(W:eL):(ja (f.LC W)).size=(aV false av 1 (bI (db f.tn))).length+(aV false av 2 (bI (db m21))).length+(ka f.k0 3 W).length:=by
 show(strOfNums (aV false av 1 (bI (db f.tn)))++(strOfNums (aV false av 2 (bI (db m21)))++(strOfNums (ka f.k0 3 W)++⟨#[]⟩))).size=_;rw[dT,aN,aN,bG,bG,bG];omega
theorem bw.aaJ(h:bw f)(e:jw f){W:eL}(a:Am W):Fits (f.tC W) (f.tS W) f.aC f.aS:=by
 have n:=iN false av 0 (bI f.vC) (by rw[aj,h.Z8];decide);have o:=iN false av 0 (bI f.vW) (by rw[aj,h.Z9];decide);have q:=iN false av 1 (bI (db f.tn)) (by rw[aj,h.z30];decide);have s:=iN false av 1 (bI (db f.zx)) (by rw[aj,h.z31];decide);have t:=iN false av 2 (bI (db m21)) (by rw[aj,z21];decide);have u:=Bu f.k0 3 W (λp l=>(a.pay p l).size);have v:=h.Og;have w:=h.Oh;have x:=a.len;have A:=h.aCz;have B:=h.aSz;have C:=dSz (f:=f);have D:=LCz (f:=f) W;have E:(f.tS W).all.length=f.aC.size+(ja (f.LC W)).size:=by rw[LB,aj,aN]
 have F:(f.tC W).all.length=f.aS.size+f.dS.size:=by rw[Ly,aj,aN,Bh]
 have g:∀y,∃r,bI (f.aC++(f.tC W).out y)++r=(f.tS W).all:=λy=>by
  obtain⟨r,b⟩:=(f.tC W).MI y;refine⟨bI r,?_⟩;rw[LB,<-gP,lA,b]
  rfl
 have c:∀z,∃r,bI (f.aS++(f.tS W).out z)++r=(f.tC W).all:=λz=>by
  obtain⟨r,b⟩:=(f.tS W).MI z;refine⟨bI r,?_⟩;rw[Ly,<-gP,lA,b]
  rfl
 refine⟨h.acn W,h.aco a,⟨h.ab4 e a,⟨by show 0<=_;omega,by show 0<=_;omega,h.aaW f.key h.Cf W,rfl⟩,?_,by show 16<=1000;decide,af⟩,⟨h.ab5 e a,⟨by show 0<=_;omega,by show 0<=_;omega,h.aaY e,rfl⟩,?_,by show 0<=1000;decide,af⟩,g,c,λy=> ?_,λz=> ?_,λy z i j=> ?_⟩
 .rw[tY];show(ja (f.LC W)).size<=_;omega
 .rw[tY];show(ja (f.LS W)).size<=_;rw[Bh];omega
 .refine ap ((f.tC W).Nd y) ?_;show 3<=1000000;decide
 .refine ap ((f.tS W).Nd z) ?_;show(f.LP 0 W).length+1+1+1<=1000000;rw[Pq];omega
 .rw[aN]at i j;have G:((f.tC W).head).length=f.wM.size+1:=by show(f.wM.data.toList++ [13]).length=_;rw[am];rfl
  have H:((f.tS W).head).length=f.wL.size+1:=by show(f.wL.data.toList++ [13]).length=_;rw[am];rfl
  have m:∀y,f.aS.size<=y->(aV false av 1 (bI (db f.tn))).length<=((f.tC W).out y).size:=λy j=>by
   unfold mc.out;rw[aq af];show _<=((dI (f.ch f.key W) (⟨bI f.vW,false,strOfNums (aV false av 1 (bI (db f.tn))),f.c1 f.key W⟩::_) (y -((f.tC W).head.length+1))).out).size;rw[jd (by show¬_<(aV false av 0 (bI f.vW)).length;omega)];show _<=(strOfNums (aV false av 1 (bI (db f.tn)))++_).size;rw[aN,bG];omega
  have lS:∀z,f.aC.size+(aV false av 1 (bI (db f.tn))).length<=z->f.dS.size<=((f.tS W).out z).size:=λz i=>by
   unfold mc.out;rw[aq af];show _<=((dI f.sh (⟨bI f.vC,false,⟨#[]⟩,f.s1⟩::⟨bI (db f.tn),false,f.dS,f.s2⟩::_) (z -((f.tS W).head.length+1))).out).size;rw[jd (by show¬_<(aV false av 0 (bI f.vC)).length;omega)];show _<=(⟨#[]⟩++(dI f.s1 (⟨bI (db f.tn),false,f.dS,f.s2⟩::_) (z -((f.tS W).head.length+1) -(aV false av 0 (bI f.vC)).length)).out).size;rw[em,jd (by show¬_<(aV false av 1 (bI (db f.tn))).length;omega)];show _<=(f.dS++_).size;rw[aN];omega
  have I:=m y af;have J:=lS z af;obtain⟨r,b⟩:=c z;have K:f.aS.size+((f.tS W).out z).size<=(f.tC W).all.length:=by rw[<-b,am,aj,aN];omega
  have d:y=(f.tC W).all.length:=af;refine⟨d,?_⟩;have k:=(f.tC W).full.2.1;rw[<-d]at k;have L:((f.tC W).out y).size=(ja (f.LC W)).size:=by rw[k];rfl
  omega
theorem MY(h:bw f)(i:jw f){W:eL}(j:Am W):∃k,k<=2000000/\iK (1<= ·) k 0 ⟨{oA true f.ml f.kJ av f.key 0 with waits:=W},oA false f.lT f.kU f.host av 0,⟨#[]⟩,⟨#[]⟩,[],[],none,none⟩ ⟨f.c3 f.key W.length,f.s3 W.length,⟨#[]⟩,⟨#[]⟩,[],W,none,none⟩:=by
 have a:=h.aaJ i j;have d:=(f.tC W).full;have e:=(f.tS W).full;have l:=a.szC 0;have m:=a.szS 0;have t:=a.rdC.size;have u:=a.rdS.size;have b:(f.tC W).out 0=⟨#[]⟩:=aJ (ce _);have c:(f.tS W).out 0=⟨#[]⟩:=aJ (ce _);rw[b,dT]at l;rw[c,dT]at m
 have n:cU ⟨{oA true f.ml f.kJ av f.key 0 with waits:=W},oA false f.lT f.kU f.host av 0,⟨#[]⟩,⟨#[]⟩,[],[],none,none⟩=oB (f.tC W) (f.tS W) f.aC f.aS 0 0:=by
  rw[Ku h,Kv h];unfold oB;rw[b,c,dT,dT];show(⟨{f.c0 f.key W with out:=⟨#[]⟩},{f.s0 with out:=⟨#[]⟩},⟨#[]⟩++f.aS,⟨#[]⟩++f.aC,[],[],none,none⟩:fe)=_;rw[em,em,show f.aS.extract 0 f.aS.size=f.aS from mv (by rw[gQ];rfl),show f.aC.extract 0 f.aC.size=f.aC from mv (by rw[gQ];rfl)]
  rfl
 refine⟨((f.tC W).all.length -0)+((f.tS W).all.length -0),af,?_⟩;have g:=SC a (((f.tC W).all.length -0)+((f.tS W).all.length -0)) 0 0 0 ⟨{oA true f.ml f.kJ av f.key 0 with waits:=W},oA false f.lT f.kU f.host av 0,⟨#[]⟩,⟨#[]⟩,[],[],none,none⟩ (ak _) (ce _) (ce _) n ⟨ce _,ce _,by rw[Ku h];show f.aC.size<=_;omega,by rw[Kv h];show f.aS.size<=_;omega,ce _,ce _⟩
 have o:oB (f.tC W) (f.tS W) f.aC f.aS (f.tC W).all.length (f.tS W).all.length=⟨f.c3 f.key W.length,f.s3 W.length,⟨#[]⟩,⟨#[]⟩,[],W,none,none⟩:=by
  have sC:(f.aC++(f.tC W).out (f.tC W).all.length).size=(f.tS W).all.length:=by rw[d.2.1,LB,aj];rfl
  have sS:(f.aS++(f.tS W).out (f.tS W).all.length).size=(f.tC W).all.length:=by rw[e.2.1,Ly,aj];rfl
  have p:(f.aC++(f.tC W).out (f.tC W).all.length).extract (f.tS W).all.length (f.aC++(f.tC W).out (f.tC W).all.length).size=⟨#[]⟩:=mv (by rw[gQ,fY (by rw[aj];omega)];rfl);have q:(f.aS++(f.tS W).out (f.tS W).all.length).extract (f.tC W).all.length (f.aS++(f.tS W).out (f.tS W).all.length).size=⟨#[]⟩:=mv (by rw[gQ,fY (by rw[aj];omega)];rfl);unfold oB;rw[p,q,d.1,e.1,d.2.2,e.2.2];have r:yV (f.tC W).s1 (f.tC W).L=f.c3 f.key W.length:=rfl
  have s:yV (f.tS W).s1 (f.tS W).L=f.s3 W.length:=by
   show yV (f.s3 0) (f.LP 0 W)=_;rw[Mu,aW]
  have u1:zl (f.tC W).L= []:=rfl
  have u2:zl (f.tS W).L=W:=by
   show[]++([]++([]++zl (f.LP 0 W)))=W;rw[Nc];rfl
  rw[r,s,u1,u2]
  rfl
 rw[o]at g;exact g
end
structure Idle(s:aX):Prop where
 peer:s.eB.peer.size≠0
 e:s.eB.e=none
 part:s.eB.part.size<=1000000
 more:s.eB.more<=1000
 rs:s.rs=⟨#[]⟩
 ok:bC s
 gone:s.gone=false
 rn:s.rn<=1000000
theorem Idle.eB{s:aX}(h:Idle s)(t:bB):lP (t.size+1) s.eB t=(s.eB,t,none):=by
 show(if s.eB.peer.size≠0\/s.eB.e≠none then _ else _)=_;rw[aJ (.inl h.peer),h.e]
theorem Idle.rd{s:aX}(h:Idle s)(x:bB)(a:x.size<=1000000):ju {s with rs:=x}:=
 ⟨a,by show s.rn<=_;have:=h.rn;omega,h.ok.Wn x,h.gone⟩
theorem Be{s:aX}{p r:bB}(a:1<=p.size)(hm:p.size<=32768):dD {s with rs:=strOfNums (aV s.rb s.rk s.rn (bI p))++r}=(0,true,bI p,bI r):=by
 show px s.rb s.rk s.rn (bI (strOfNums (aV s.rb s.rk s.rn (bI p))++r))=_;rw[gP,wX];exact D5 s.rb s.rk s.rn (bI p) (bI r) (c8 p) (by rw[aj];exact a) (by rw[aj];exact hm)
theorem Ic{s:aX}{p r:bB}(hm:p.size<=32768):(strOfNums (aV s.rb s.rk s.rn (bI p))++r).size<=40000+r.size:=by
 have:=iN s.rb s.rk s.rn (bI p) (by rw[aj];exact hm);rw[aN,bG];omega
theorem D4{s:aX}{p r:bB}(a:1<=p.size)(hm:p.size<=32768):gM {s with rs:=strOfNums (aV s.rb s.rk s.rn (bI p))++r}={s with rn:=s.rn+1,rs:=r}:=by
 unfold gM;rw[Be a hm];show({s with rn:=s.rn+1,rs:=strOfNums (bI r)}:aX)=_;rw[fq]
theorem JY(s:aX)(k:Nat):(jy s k).gone=true:=by
 unfold jy
 split<;>rfl
theorem Mm{s q:aX}{p r:bB}{u:Bool}{k:Nat}(h:Idle s)(f:1<=p.size)(hm:p.size<=32768)(m:r.size<=100000)(i:iF {s with rn:=s.rn+1,rs:=r} p)(hq:dF {s with rn:=s.rn+1,rs:=r} p=(q,u,some k))(j:k<20)(c:ju q)(d:Room q):
 xQ s (strOfNums (aV s.rb s.rk s.rn (bI p))++r) (jy q k) [] (some k):=by
 have n:=Ic (s:=s) (r:=r) hm;have e:=Be (s:=s) (r:=r) f hm;have a:=D4 (s:=s) (r:=r) f hm;refine xQ.wQ (h.eB _) af h.part h.more h.ok h.gone (by rw[h.rs];show 0+_<=_;omega) ?_;rw[h.rs,em];show kk {s with rs:=strOfNums (aV s.rb s.rk s.rn (bI p))++r} [] _ _ _;have b:strOfNums (dD {s with rs:=strOfNums (aV s.rb s.rk s.rn (bI p))++r}).2.2.1=p:=by rw[e];exact fq p
 have g:=kk.err (s:={s with rs:=strOfNums (aV s.rb s.rk s.rn (bI p))++r}) (l:= []) k h.peer (h.rd _ af) (by rw[e]) (by rw[e]) (by rw[a,b];exact i) (by rw[a,b,hq]) j (by rw[a,b,hq];exact c) (by rw[a,b,hq];exact d);rw[a,b,hq]at g;exact g
theorem YH{s q:aX}{p:bB}{u:Bool}(h:Idle s)(g:1<=p.size)(hm:p.size<=32768)(j:iF {s with rn:=s.rn+1,rs:=⟨#[]⟩} p)(hq:dF {s with rn:=s.rn+1,rs:=⟨#[]⟩} p=(q,u,none))(b:Idle q):
 xQ s (strOfNums (aV s.rb s.rk s.rn (bI p))) q (if u=true then[p]else[]) none:=by
 have i:=Ic (s:=s) (r:=⟨#[]⟩) hm;have c:=Be (s:=s) (r:=⟨#[]⟩) g hm;have d:=D4 (s:=s) (r:=⟨#[]⟩) g hm;rw[dT]at i c d;have k:(strOfNums (aV s.rb s.rk s.rn (bI p))).size<=40000:=i;refine xQ.wQ (h.eB _) af h.part h.more h.ok h.gone (by rw[h.rs];show 0+_<=_;omega) ?_;rw[h.rs,em];show kk {s with rs:=strOfNums (aV s.rb s.rk s.rn (bI p))} [] _ _ _;have e:strOfNums (dD {s with rs:=strOfNums (aV s.rb s.rk s.rn (bI p))}).2.2.1=p:=by rw[c];exact fq p
 have a:dD q=(0,false,[],[]):=by
  show px q.rb q.rk q.rn (bI q.rs)=_;rw[b.rs]
  rfl
 have f:=b.rd q.rs (by rw[b.rs];decide);refine kk.step (s:={s with rs:=strOfNums (aV s.rb s.rk s.rn (bI p))}) (l:= []) h.peer (h.rd _ af) (by rw[c]) (by rw[c]) (by rw[d,e];exact j) (by rw[d,e,hq]) ?_;rw[d,e,hq];exact kk.wait b.peer f (by rw[a]) (by rw[a])
theorem GP{n:Nat}{t:bB}(h:t.size<=n):kg n t=t/\hG n t=⟨#[]⟩:=by
 unfold kg hG;rw[Nat.min_eq_right h];refine⟨mv (by rw[gQ];rfl),mv ?_⟩;rw[gQ,fY (by rw[aj];exact ak _)]
 rfl
theorem iK.server{N:Nat->Prop}{k i:Nat}{p R:fe}{s2:aX}{l:eL}{o:Option Nat}(b:fU p/\fU (cU p))(a:(cU p).ma.size≠0)(c:i %2=0\/(cU p).mE.size=0)(d:∀n,N n->(cU p).ma.size<=n)(hf:xQ (cU p).s (cU p).ma s2 l o)(e:iK N k (i+1) (cU {cU p with s:=s2,ma:=⟨#[]⟩,mX:=(cU p).mX++l,qB:=th (cU p).qB o}) R):iK N (k+1) i p R:=by
 refine⟨b,.inr ⟨λh=>a h.1,λn f=>⟨_,?_,e⟩⟩⟩
 have g:oZ i (cU p)=true:=by
  unfold oZ;rw[Bool.and_eq_true,Bool.or_eq_true];exact⟨fj a,c.imp fj fj⟩
 obtain⟨j,m⟩:=GP (d n f);rw[g];exact⟨s2,l,o,by rw[j];exact hf,by rw[m]⟩
theorem iK.Qh{N:Nat->Prop}{k i:Nat}{p R:fe}{s2:aX}{l:eL}{o:Option Nat}(b:fU p/\fU (cU p))(hz:(cU p).ma.size=0)(a:(cU p).mE.size≠0)(d:∀n,N n->(cU p).mE.size<=n)(hf:xQ (cU p).c (cU p).mE s2 l o)(e:iK N k (i+1) (cU {cU p with c:=s2,mE:=⟨#[]⟩,mW:=(cU p).mW++l,qA:=th (cU p).qA o}) R):iK N (k+1) i p R:=by
 refine⟨b,.inr ⟨λh=>a h.2,λn f=>⟨_,?_,e⟩⟩⟩
 have g:oZ i (cU p)=false:=by
  unfold oZ;rw[Bool.and_eq_false_iff]
  left
  rw[hz]
  rfl
 obtain⟨j,m⟩:=GP (d n f);rw[g];exact⟨s2,l,o,by rw[j];exact hf,by rw[m]⟩
theorem AA(s:aX)(m:de)(x y z a d:bB)(hS:m.S= [x,y,z])(f:s.on.asked=true)(g:s.on.done=false)(b:s.cl=true)(h:fy x 32 9= .inl a)(i:fy z 64 10= .inl d)(j:y.size=32)(c:di s.on.draw (bI y)≠0)(l:bI a≠s.rZ):
 fV s m=({s with on:={s.on with p1:=bI y,sec:=eE (di s.on.draw (bI y)),hb:=x}},some 13):=by
 have e:=yx s y j c;rw[if_pos b]at e;unfold fV;rw[if_neg (by rw[f,g];simp),hS];show(match fy x 32 9 with| .inr k=>(s,some k)| .inl a=>match fy z 64 10 with| .inr k=>(s,some k)| .inl d=>match gZ s y with|(s1,some k)=>(s1,some k)|(s1,none)=>_)=_;rw[h,i,e];dsimp only;rw[if_pos l]
 rfl
section
variable {f:Fix}
def Fix.Pg(f:Fix)(a:List Int):mc:=⟨f.c0 a [],f.wM,[⟨bI f.vW,false,strOfNums (aV false av 1 (bI (db f.tn))),f.c1 a []⟩]⟩
def Fix.Tc(f:Fix):mc:=⟨f.s0,f.wL,[⟨bI f.vC,false,⟨#[]⟩,f.s1⟩]⟩
theorem bw.Wm(h:bw f)(c:jw f):xQ f.s0 f.aC f.s1 [] none:=by
 have j:f.Tc.Ok:=⟨rfl,rfl,rfl,rfl,rfl,h.lfC,by show f.wL.size<250;have:=h.Og;omega,h.sA,h.XH,⟨Xz h,trivial⟩⟩;have r:=iN false av 0 (bI f.vC) (by rw[aj,h.Z8];decide);have s:=h.Og;have t:=h.aCz
 have i:f.Tc.all=bI f.aC:=by
  unfold mc.all mc.head;show((f.wL.data.toList++ [13]).map λb:UInt8=>(b.toNat:Int))++10::(aV false av 0 (bI f.vC)++ [])=bI (f.wL++iL++strOfNums (aV false av 0 (bI f.vC)));rw[head_map,bP,gP (f.wL++iL) _,wX]
 have u:f.Tc.all.length=f.aC.size:=by rw[i,aj]
 have k:f.Tc.Rd:=⟨⟨ju.of (h.aa0 c) rfl (nL rfl),λx o _ a=>h.Tc c x o a,ju.of (h.Zk c) rfl (by show 1<=1000000000;decide)⟩,⟨by show 0<=_;omega,by show 0<=_;omega,h.aaY c,rfl⟩,by show 0+0<=_;omega,by show 0<=1000;decide,af⟩;obtain⟨d,l,e,a,g⟩:=mc.fed j k 0 f.Tc.all.length f.aC af (by rw[i,nT,bL (ak _)]);obtain⟨m,n,p⟩:=f.Tc.full;rw[aW]at e a g;have q:f.Tc.out 0=⟨#[]⟩:=aJ (ce _);have u0:f.Tc.I6 0= []:=aJ (ce _);rw[m]at e;rw[n,q,em]at a;rw[p,u0,eo]at g;rw[<-a,<-g]at e;exact e
theorem bw.Un(h:bw f)(k:jw f)(a:aR)(c:dn a):xQ (f.c0 a []) f.aS {f.c1 a []with out:=strOfNums (aV false av 1 (bI (db f.tn)))} [] none:=by
 have l:(f.Pg a).Ok:=⟨rfl,rfl,rfl,rfl,rfl,h.lfS,by show f.wM.size<250;have:=h.Oh;omega,h.A9,h.XI,⟨Xy h a [],trivial⟩⟩;have u:=iN false av 0 (bI f.vW) (by rw[aj,h.Z9];decide);have v:=iN false av 1 (bI (db f.tn)) (by rw[aj,h.z30];decide);have w:=h.Oh;have y:=h.aSz
 have j:(f.Pg a).all=bI f.aS:=by
  unfold mc.all mc.head;show((f.wM.data.toList++ [13]).map λb:UInt8=>(b.toNat:Int))++10::(aV false av 0 (bI f.vW)++ [])=bI (f.wM++iL++strOfNums (aV false av 0 (bI f.vW)));rw[head_map,bP,gP (f.wM++iL) _,wX]
 have z:(f.Pg a).all.length=f.aS.size:=by rw[j,aj]
 have m:(f.Pg a).Rd:=⟨⟨ju.of (h.aaX a c []) rfl (nL rfl),λx o _ e=>h.Pg k a Am.nil x o e,ju.of (h.Zj a c []) rfl (by show 1<=1000000000;decide)⟩,⟨by show 0<=_;omega,by show 0<=_;omega,h.aaW a c [],rfl⟩,by show(strOfNums (aV false av 1 (bI (db f.tn)))).size+0<=_;rw[bG];omega,by show 16<=1000;decide,af⟩;obtain⟨d,n,g,e,i⟩:=mc.fed l m 0 (f.Pg a).all.length f.aS af (by rw[j,nT,bL (ak _)]);obtain⟨p,q,r⟩:=(f.Pg a).full;rw[aW]at g e i;have s:(f.Pg a).out 0=⟨#[]⟩:=aJ (ce _);have u0:(f.Pg a).I6 0= []:=aJ (ce _);rw[p]at g;rw[q,s,em]at e;rw[r,u0,eo]at i;rw[<-e,<-i]at g
 have t:ja (f.Pg a).L=strOfNums (aV false av 1 (bI (db f.tn))):=by
  show strOfNums (aV false av 1 (bI (db f.tn)))++⟨#[]⟩=_;rw[dT]
 rw[t]at g;exact g
theorem bw.YO(h:bw f)(a:jw f):Idle f.s1:=⟨h.sA,rfl,by show 0<=_;omega,by show 0<=_;omega,rfl,h.Zk a,rfl,by show 1<=_;omega⟩
theorem bw.SG(h:bw f)(a:jw f):xQ f.s1 (strOfNums (aV false av 1 (bI (db f.tn)))) {f.s2 with out:=f.dS} [] none:=by
 have b:=h.tS2 a ⟨#[]⟩ ⟨#[]⟩ an;rw[fq]at b;have c:=(XA h).take ⟨#[]⟩ ⟨#[]⟩;rw[fq,em]at c;exact YH (s:=f.s1) (u:=false) (h.YO a) (by rw[h.z30];decide) (by rw[h.z30];decide) b c ⟨h.sA,rfl,by show 0<=_;omega,by show 0<=_;omega,rfl,(h.VN a).zd f.dS,rfl,by show 2<=_;omega⟩
def Fix.Ul(f:Fix)(a:List Int)(r:ByteArray):aX:={f.c1 a []with rn:=2,rs:=r,on:={f.Az with p1:=f.pS,sec:=f.sec,hb:=dB f.key}}
theorem bw.Yf(h:bw f)(n:jw f)(a:aR)(b:dn a)(d:f.key≠a):xQ (f.c1 a []) f.dS (jy (f.Ul a (strOfNums (aV false av 2 (bI (db m21))))) 13) [] (some 13):=by
 have g:bI (strOfNums f.pS)=f.pS:=cJ h.pSm;have i:bI (strOfNums f.key)=f.key:=cJ h.Kh;have o:=iN false av 2 (bI (db m21)) (by rw[aj,z21];decide);generalize l:strOfNums (aV false av 2 (bI (db m21)))=r;have p:r.size<=40000:=by rw[<-l,bG];exact o
 have c:di f.vy (bI (strOfNums f.pS))≠0:=by rw[g,h.zC];exact h.ne
 have q:=AA {f.c1 a []with rn:=(f.c1 a []).rn+1,rs:=r} f.zx (dB f.key) (strOfNums f.pS) (dB f.sig) (strOfNums f.key) (strOfNums f.sig) rfl rfl rfl rfl (ko 32 9 h.Cs h.Kh an) (ko 64 10 h.IK h.OR an) (by rw[bG,h.Z3]) c (by rw[i];exact d)
 have t:dF {f.c1 a []with rn:=(f.c1 a []).rn+1,rs:=r} (db f.zx)=(f.Ul a r,false,some 13):=by
  refine(nF (m:=f.zx) rfl (dZ h.WT)).trans ?_;rw[show f.zx.kind=31 from rfl,aq an,aq an,aq an,aq an,aJ rfl,q];show(({{f.c1 a []with rn:=(f.c1 a []).rn+1,rs:=r}with on:={f.Az with p1:=bI (strOfNums f.pS),sec:=eE (di f.vy (bI (strOfNums f.pS))),hb:=dB f.key}}:aX),false,some 13)=_;rw[g,h.zC,h.sec]
  rfl
 have j:bC (f.Ul a r):=⟨dn.av,b,dn.av,dn.av,h.Yb,h.bPC,h.bPS,h.Yc,dn.av,dn.av,dn.av,dn.av,dn.av,dn.av⟩
 have k:iF {f.c1 a []with rn:=(f.c1 a []).rn+1,rs:=r} (db f.zx):=by
  refine lM (dZ h.WT) (by rw[h.z31];decide) (nE (s:=f.c1 a []) Am.nil rfl rfl rfl (nL rfl) (nL rfl) (nL rfl) n.sdC h.wA (nL rfl) r ⟨#[]⟩ (nL rfl)) (λe=>E4 rfl e) (λe=>E4 rfl e) (λ_ _ _=> ?_);exact⟨rfl,dB f.key,strOfNums f.pS,dB f.sig,rfl,by rw[eX 32 h.Cs];decide,by rw[eX 64 h.IK];decide,.inr ⟨strOfNums f.key,strOfNums f.sig,ko 32 9 h.Cs h.Kh an,ko 64 10 h.IK h.OR an,by rw[bG,h.Z3],c,.inl (by rw[i];exact d)⟩⟩
 have u:=Mm (s:=f.c1 a []) (r:=r) ⟨h.A9,rfl,by show 0<=_;omega,by show 16<=_;omega,rfl,h.Zj a b [],rfl,by show 1<=_;omega⟩ (by rw[h.z31];decide) (by rw[h.z31];decide) af k t an ⟨by show r.size<=_;omega,by show 2<=_;omega,j,rfl⟩ ⟨by show 2<=_;omega,by show 0<=_;omega,by show 2<=_;omega⟩;have v:f.dS=strOfNums (aV false av 1 (bI (db f.zx)))++r:=by rw[<-l];rfl
 rw[v];exact u
theorem bw.ZF(h:bw f)(a:jw f):xQ f.s2 (strOfNums (aV false av 2 (bI (db (jU 9))))) {f.s2 with rn:=3,gone:=true} [] (some 17):=by
 have d:dF {f.s2 with rn:=f.s2.rn+1,rs:=⟨#[]⟩} (db (jU 9))=({f.s2 with rn:=f.s2.rn+1,rs:=⟨#[]⟩},false,some 17):=nF (m:=jU 9) rfl (dZ (AN 9 an))
 have b:iF {f.s2 with rn:=f.s2.rn+1,rs:=⟨#[]⟩} (db (jU 9)):=
  lM (dZ (AN 9 an)) (by rw[qb];decide) (nE (s:=f.s2) Am.nil rfl rfl rfl (nL rfl) (nL rfl) (nL rfl) a.sdS h.aaI (nL rfl) ⟨#[]⟩ ⟨#[]⟩ (nL rfl)) (λe=>E4 rfl e) (λe=>E4 rfl e) (λe=>E4 rfl e)
 have c:=Mm (s:=f.s2) (r:=⟨#[]⟩) ⟨h.sA,rfl,by show 0<=_;omega,by show 0<=_;omega,rfl,h.VN a,rfl,by show 2<=_;omega⟩ (by rw[qb];decide) (by rw[qb];decide) an b d an ⟨by show 0<=_;omega,by show 3<=_;omega,(h.VN a).acd 3 ⟨#[]⟩ ⟨#[]⟩,rfl⟩ ⟨by show 3<=_;omega,by show 0<=_;omega,by show 3<=_;omega⟩;rw[dT]at c;exact c
theorem Wf(h:bw f)(z:jw f)(d:aR)(r:dn d)(D:f.key≠d):∃k R,k<=2000000/\iK (· =1073741824) k 0 ⟨oA true f.ml f.kJ av d 0,oA false f.lT f.kU f.host av 0,⟨#[]⟩,⟨#[]⟩,[],[],none,none⟩ R/\R.c.gone=true/\R.s.gone=true/\R.c.c7=0/\R.mW= []/\R.mX= []/\R.qA=some 13/\R.qB=some 17:=by
 have S:=iN false av 0 (bI f.vC) (by rw[aj,h.Z8];decide);have U:=iN false av 0 (bI f.vW) (by rw[aj,h.Z9];decide);have V:=iN false av 1 (bI (db f.tn)) (by rw[aj,h.z30];decide);have W:=iN false av 1 (bI (db f.zx)) (by rw[aj,h.z31];decide);have X:=iN false av 2 (bI (db m21)) (by rw[aj,z21];decide);have Y:=iN false av 2 (bI (db (jU 9))) (by rw[aj,qb];decide);have Z:=yq false av 0 (bI f.vC);have p2:=yq false av 0 (bI f.vW);have p3:=yq false av 1 (bI (db f.tn));have p4:=yq false av 1 (bI (db f.zx));have p6:=yq false av 2 (bI (db (jU 9)));have b7:=h.Og;have b8:=h.Oh;have a1:=h.aCz;have a2:=h.aSz;have a3:=dSz (f:=f);obtain⟨e,t⟩:=aP (strOfNums (aV false av 1 (bI (db f.tn))));obtain⟨u,v⟩:=aP (strOfNums (aV false av 2 (bI (db (jU 9)))));have G:e.size=(aV false av 1 (bI (db f.tn))).length:=by rw[t,bG]
 have zG:u.size=(aV false av 2 (bI (db (jU 9)))).length:=by rw[v,bG]
 have s1:=h.Wm z;have s2:=h.Un z d r;have s3:=h.SG z;have E:=h.Yf z d r D;have F:=h.ZF z;rw[<-t]at s2 s3;rw[<-v]at F;obtain⟨g,q⟩:=aP (jy (f.Ul d (strOfNums (aV false av 2 (bI (db m21))))) 13);have H:g.gone=true:=by rw[q];exact JY _ _
 have I:g.c7=0:=by rw[q];rfl
 have J:g.out=u:=by
  rw[q,v];show⟨#[]⟩++strOfNums (aV false av 2 (bI (db (jU 9))))=_;rw[em]
 rw[<-q]at E;rw[Ku h,Kv h];have j:∀(c s:aX) (a b:ByteArray) (x y:Option Nat),a.size<=1000000000->b.size<=1000000000->c.out.size<=1000000000->s.out.size<=1000000000->fU ⟨c,s,a,b,[],[],x,y⟩:=λc s a b x y K L M N=>⟨K,L,M,N,ce _,ce _⟩
 have A:cU ⟨{f.c0 d []with out:=f.wL++iL++strOfNums (aV false av 0 (bI f.vC))},{f.s0 with out:=f.wM++iL++strOfNums (aV false av 0 (bI f.vW))},⟨#[]⟩,⟨#[]⟩,[],[],none,none⟩=⟨f.c0 d [],f.s0,f.aS,f.aC,[],[],none,none⟩:=by
  show(⟨f.c0 d [],f.s0,⟨#[]⟩++f.aS,⟨#[]⟩++f.aC,[],[],none,none⟩:fe)=_;rw[em,em]
 have w:cU ⟨f.c0 d [],f.s1,f.aS,⟨#[]⟩,[],[],none,none⟩=⟨f.c0 d [],f.s1,f.aS,⟨#[]⟩,[],[],none,none⟩:=by
  show(⟨f.c0 d [],f.s1,f.aS++⟨#[]⟩,⟨#[]⟩++⟨#[]⟩,[],[],none,none⟩:fe)=_;rw[dT,dT]
 have O:cU ⟨{f.c1 d []with out:=e},f.s1,⟨#[]⟩,⟨#[]⟩,[],[],none,none⟩=⟨f.c1 d [],f.s1,⟨#[]⟩,e,[],[],none,none⟩:=by
  show(⟨f.c1 d [],f.s1,⟨#[]⟩++⟨#[]⟩,⟨#[]⟩++e,[],[],none,none⟩:fe)=_;rw[dT,em]
 have m:cU ⟨f.c1 d [],f.s1,⟨#[]⟩,e,[],[],none,none⟩=⟨f.c1 d [],f.s1,⟨#[]⟩,e,[],[],none,none⟩:=by
  show(⟨f.c1 d [],f.s1,⟨#[]⟩++⟨#[]⟩,e++⟨#[]⟩,[],[],none,none⟩:fe)=_;rw[dT,dT]
 have P:cU ⟨f.c1 d [],{f.s2 with out:=f.dS},⟨#[]⟩,⟨#[]⟩,[],[],none,none⟩=⟨f.c1 d [],f.s2,f.dS,⟨#[]⟩,[],[],none,none⟩:=by
  show(⟨f.c1 d [],f.s2,⟨#[]⟩++f.dS,⟨#[]⟩++⟨#[]⟩,[],[],none,none⟩:fe)=_;rw[dT,em]
 have i:cU ⟨f.c1 d [],f.s2,f.dS,⟨#[]⟩,[],[],none,none⟩=⟨f.c1 d [],f.s2,f.dS,⟨#[]⟩,[],[],none,none⟩:=by
  show(⟨f.c1 d [],f.s2,f.dS++⟨#[]⟩,⟨#[]⟩++⟨#[]⟩,[],[],none,none⟩:fe)=_;rw[dT,dT]
 have Q:cU ⟨g,f.s2,⟨#[]⟩,⟨#[]⟩,[],[],some 13,none⟩=⟨pb g,f.s2,⟨#[]⟩,u,[],[],some 13,none⟩:=by
  show(⟨pb g,f.s2,⟨#[]⟩++⟨#[]⟩,⟨#[]⟩++g.out,[],[],some 13,none⟩:fe)=_;rw[dT,em,J]
 have p:cU ⟨pb g,f.s2,⟨#[]⟩,u,[],[],some 13,none⟩=⟨pb g,f.s2,⟨#[]⟩,u,[],[],some 13,none⟩:=by
  show(⟨pb g,f.s2,⟨#[]⟩++⟨#[]⟩,u++⟨#[]⟩,[],[],some 13,none⟩:fe)=_;rw[dT,dT]
 have B:cU ⟨pb g,{f.s2 with rn:=3,gone:=true},⟨#[]⟩,⟨#[]⟩,[],[],some 13,some 17⟩=⟨pb g,{f.s2 with rn:=3,gone:=true},⟨#[]⟩,⟨#[]⟩,[],[],some 13,some 17⟩:=by
  show(⟨pb g,{f.s2 with rn:=3,gone:=true},⟨#[]⟩++⟨#[]⟩,⟨#[]⟩++⟨#[]⟩,[],[],some 13,some 17⟩:fe)=_;rw[dT]
 refine⟨5,⟨pb g,{f.s2 with rn:=3,gone:=true},⟨#[]⟩,⟨#[]⟩,[],[],some 13,some 17⟩,an,?_,H,rfl,I,rfl,rfl,rfl,rfl⟩;refine iK.server (s2:=f.s1) (l:= []) (o:=none) ⟨j _ _ _ _ _ _ (by show 0<=_;omega) (by show 0<=_;omega) (by show f.aC.size<=_;omega) (by show f.aS.size<=_;omega),by rw[A];exact j _ _ _ _ _ _ (by first|omega|(show 0<=_;omega)) (by first|omega|(show 0<=_;omega)) (by show 0<=_;omega) (by show 0<=_;omega)⟩ (by rw[A];show f.aC.size≠0;omega) (.inl rfl) (λn C=>by rw[A];show f.aC.size<=n;omega) (by rw[A];exact s1) ?_;rw[A];show iK _ 4 1 (cU ⟨f.c0 d [],f.s1,f.aS,⟨#[]⟩,[],[],none,none⟩) _;rw[w];refine iK.Qh (s2:={f.c1 d []with out:=e}) (l:= []) (o:=none) ⟨j _ _ _ _ _ _ af (by show 0<=_;omega) (by show 0<=_;omega) (by show 0<=_;omega),by rw[w];exact j _ _ _ _ _ _ (by first|omega|(show 0<=_;omega)) (by first|omega|(show 0<=_;omega)) (by show 0<=_;omega) (by show 0<=_;omega)⟩ (by rw[w];rfl) (by rw[w];show f.aS.size≠0;omega) (λn C=>by rw[w];show f.aS.size<=n;omega) (by rw[w];exact s2) ?_;rw[w];show iK _ 3 2 (cU ⟨{f.c1 d []with out:=e},f.s1,⟨#[]⟩,⟨#[]⟩,[],[],none,none⟩) _;rw[O];refine iK.server (s2:={f.s2 with out:=f.dS}) (l:= []) (o:=none) ⟨j _ _ _ _ _ _ (by show 0<=_;omega) af (by show 0<=_;omega) (by show 0<=_;omega),by rw[m];exact j _ _ _ _ _ _ (by first|omega|(show 0<=_;omega)) (by first|omega|(show 0<=_;omega)) (by show 0<=_;omega) (by show 0<=_;omega)⟩ (by rw[m];show e.size≠0;omega) (.inl rfl) (λn C=>by rw[m];show e.size<=n;omega) (by rw[m];exact s3) ?_;rw[m];show iK _ 2 3 (cU ⟨f.c1 d [],{f.s2 with out:=f.dS},⟨#[]⟩,⟨#[]⟩,[],[],none,none⟩) _;rw[P];refine iK.Qh (s2:=g) (l:= []) (o:=some 13) ⟨j _ _ _ _ _ _ af (by show 0<=_;omega) (by show 0<=_;omega) (by show 0<=_;omega),by rw[i];exact j _ _ _ _ _ _ (by first|omega|(show 0<=_;omega)) (by first|omega|(show 0<=_;omega)) (by show 0<=_;omega) (by show 0<=_;omega)⟩ (by rw[i];rfl) (by rw[i];show f.dS.size≠0;omega) (λn C=>by rw[i];show f.dS.size<=n;omega) (by rw[i];exact E) ?_;rw[i];show iK _ 1 4 (cU ⟨g,f.s2,⟨#[]⟩,⟨#[]⟩,[],[],some 13,none⟩) _;rw[Q];refine iK.server (s2:={f.s2 with rn:=3,gone:=true}) (l:= []) (o:=some 17) ⟨j _ _ _ _ _ _ (by show 0<=_;omega) af (by show 0<=_;omega) (by show 0<=_;omega),by rw[p];exact j _ _ _ _ _ _ (by first|omega|(show 0<=_;omega)) (by first|omega|(show 0<=_;omega)) (by show 0<=_;omega) (by show 0<=_;omega)⟩ (by rw[p];show u.size≠0;omega) (.inl rfl) (λn C=>by rw[p];show u.size<=n;omega) (by rw[p];exact F) ?_;rw[p];show iK _ 0 5 (cU ⟨pb g,{f.s2 with rn:=3,gone:=true},⟨#[]⟩,⟨#[]⟩,[],[],some 13,some 17⟩) _;rw[B];exact⟨⟨j _ _ _ _ _ _ (by show 0<=_;omega) (by show 0<=_;omega) (by show 0<=_;omega) (by show 0<=_;omega),by rw[B];exact j _ _ _ _ _ _ (by show 0<=_;omega) (by show 0<=_;omega) (by show 0<=_;omega) (by show 0<=_;omega)⟩,by rw[B];rfl,by rw[B];rfl,B.symm⟩
end
theorem wJ(L:bB)(h1:(⟨(Lib.trimSuffix L.data.toList [13]).toArray⟩:bB)=L)(a:Lib.contains L.data.toList [0]=false)(b:hasB L Ud=true)(c:LG L=true):∀h:pV,kv h L=({h with peer:=L},none):=λh=>by
 unfold kv;rw[a,b,c]
 rfl
def wF:Fix:=⟨LitA.ml,LitA.lT,LitA.kJ,LitA.kU,LitA.host,LitA.BT,LitA.AB,LitA.vy,LitA.yO,LitA.pC,LitA.pS,LitA.shr,LitA.sec,LitA.key,LitA.hash,LitA.sig⟩
def ES:Fix:=⟨LitN.ml,LitN.lT,LitN.kJ,LitN.kU,LitN.host,LitN.BT,LitN.AB,LitN.vy,LitN.yO,LitN.pC,LitN.pS,LitN.shr,LitN.sec,LitN.key,LitN.hash,LitN.sig⟩
theorem EQ:bw wF:=⟨wJ _ (by decide+kernel) (by decide+kernel) (by decide+kernel) (by decide+kernel),wJ _ (by decide+kernel) (by decide+kernel) (by decide+kernel) (by decide+kernel),an,an,by decide+kernel,by decide+kernel,LitA.EH,LitA.EI,LitA.EL,LitA.EM,LitA.MM,LitA.MN,LitA.zC,LitA.IJ,LitA.FC,LitA.Fz,LitA.tK,LitA.zO,LitA.FD,LitA.fits⟩
theorem ET:bw ES:=⟨wJ _ (by decide+kernel) (by decide+kernel) (by decide+kernel) (by decide+kernel),wJ _ (by decide+kernel) (by decide+kernel) (by decide+kernel) (by decide+kernel),an,an,by decide+kernel,by decide+kernel,LitN.EH,LitN.EI,LitN.EL,LitN.EM,LitN.MM,LitN.MN,LitN.zC,LitN.IJ,LitN.FC,LitN.Fz,LitN.tK,LitN.zO,LitN.FD,LitN.fits⟩
theorem UL:jw wF:=⟨an,an,⟨rfl,cm an⟩⟩
theorem Mn:jw ES:=⟨an,an,⟨rfl,cm an⟩⟩
end Go.Proofs.P
