/- Lemmas on which SessionPins rests. -/
import Derived.Test.YtcjcibnggioknaaGreatDoorZ16
import Derived.Test.YtcjcibnggioknaaGreatDoorZ20
import Derived.Test.YtcjcibnggioknaaGreatDoorZ21
set_option maxRecDepth 100000
set_option maxHeartbeats 40000000
set_option linter.unusedVariables false
open Go.RowKit Go.Spk
open Go.Proofs.Tryz
namespace Go.Proofs.P
structure te(x:CU):Prop where
 l0:x.l0.size<=100000
 l1:x.l1.size<=100000
 i0:x.i0.size<=100000
 i1:x.i1.size<=100000
 hb:x.hb.size<=100000
theorem J7{w:ay}{s:aX}(a:bC s)(z:te s.on)(b:dt w)(hf:dJ w):Calls prog 153 #[.agg (tD s.on)] w λr c=>r= .returned (.agg (ai .u8 (fQ s.on)))/\Below w.heap.size w c:=
 YL s.on a.nv a.mh a.iH z.l0 z.l1 z.i0 z.i1 z.hb w b hf
theorem N4(x:CU):(fQ x).length=32:=eG _ _
theorem uy(x:CU):dn (fQ x):=⟨eG _ _,cm (kY _ _)⟩
theorem mK(a b c:aR)(l:Int):dn (iu a b c l):=⟨ni _ _ _ _,cm (tA _ _ _ _)⟩
theorem Ap{s:aX}(a:bC s){key:aR}(b:dn key):bC (jH s key):=by
 have h:=bC.packed (s:={s with on:={s.on with done:=true,key:=key,hash:=fQ s.on,k0:=iu s.on.sec (fQ s.on) (if s.c7=0 then fQ s.on else s.id) 67,k1:=iu s.on.sec (fQ s.on) (if s.c7=0 then fQ s.on else s.id) 68}}) {a with iG:=b,gA:=uy _,lQ:=mK _ _ _ _,lR:=mK _ _ _ _} (db m21) s.waits;exact{h with wk:=by show dn (if s.cl then _ else _);split;exact mK _ _ _ _;exact mK _ _ _ _}
theorem FV{E:gn}{w0 w:ay}{g gh:Nat}{vw re:cH}{s:aX}(cx:Ctx E w0 g w)(i:bC s)(h:cP w g gh vw re .nilIface s)(key:aR)(b:dn key)(hz:te s.on)(o:Room s):
 Calls prog 156 #[.pointer (some ⟨g,0,none⟩),.agg (ai .u8 key)] w λr u=>r= .returned (.tuple #[])/\cP u g gh vw re .nilIface (jH s key)/\w.grownBy u (some g):=by
 have A:=b.1;have B:=N4;have C:=ni;have x:s.id.length=32:=i.id.1;obtain⟨j,p⟩:=eZ (if s.c7=0 then fQ s.on else s.id);have q:dn j:=by rw[p.o];split;exact uy _;exact i.id
 have D:(((s.c7:Nat):Int)==0)=decide (s.c7=0):=by rw[Bool.eq_iff_iff];simp
 have y:∀s m,(l6 s m).cl=s.cl:=λ_ _=>rfl;obtain⟨S,k⟩:∃S:aX,Hid (S={s with on:={s.on with done:=true,key:=key,hash:=fQ s.on,k0:=iu s.on.sec (fQ s.on) j 67,k1:=iu s.on.sec (fQ s.on) j 68}}):=⟨_,aa rfl⟩;have c:bC S:=by rw[k.out];exact{i with iG:=b,gA:=uy _,lQ:=mK _ _ _ _,lR:=mK _ _ _ _}
 have d:Room S:=by rw[k.out];exact⟨o.wn,o.out,o.since⟩
 have z:S.cl=s.cl:=by rw[k.out]
 have f:bC (l6 S m21):=c.packed _ S.waits;have l:dn (if s.cl then S.on.k0 else S.on.k1):=by split;exact c.lQ;exact c.lR
 cases t:s.cl<;>by_cases n:s.c7=0
 all_goals
  refine TC.enter func156 ntmps156 _ _ (h.hp i) ?_;refine T.one 0 (TO.J λF=> ?_);refine TC.rg [23,38] ?_;refine T.qm 5 0 8 (.agg (tD {s with on:={s.on with done:=true,key:=key}}.on)) ?_;refine T.one 6 (TO.qk (v:= .agg (ai .u8 (fQ s.on))) (λW a=>J7 (s:={s with on:={s.on with done:=true,key:=key}}) {i with iG:=b} ⟨hz.l0,hz.l1,hz.i0,hz.i1,hz.hb⟩ (cx.hp a).env.words (cx.hp a).env.first) ?_);refine T.one 4 (TO.J λG=> ?_);refine TC.put 2 [j.map (.int .u8)] (he:=by rw[p.o];(first|rw[aJ n]|rw[aq n])<;>rfl) ?_;refine TC.rg [32,33] ?_;refine T.one 13 (TO.qk (λW a=>YS s.on.sec (fQ s.on) j i.iH (uy _) q W (cx.hp a).env.words (cx.hp a).env.first) ?_);refine T.one 17 (TO.XP 0 2 ?_);refine T.put 0 (eY gh vw re .nilIface S) (he:=by rw[k.out];kernel_rfl) ?_;refine T.one 2 (TO.BZ f (λW a=>D8 m21 (.slice none 0 0) (.slice none 0 0) (.slice none 0 0) (.slice none 0 0) Tq (by rw[z21];decide) (by rw[z21];decide) c d.wn d.out d.since (cx.hp a).env.rows (cx.hp a).env.pX (cx.hp a).env.order ⟨.inl ⟨rfl,_,_,rfl⟩,.inl ⟨rfl,_,_,rfl⟩,⟨[],.inl ⟨rfl,_,_,rfl⟩,trivial⟩,.inl ⟨rfl,_,_,rfl⟩⟩ (eF a)) ?_);refine TC.rg [10,11] ?_;refine T.one 13 (TO.BZ (s':={l6 S m21 with wb:=true,wk:=if s.cl then S.on.k0 else S.on.k1}) {f with wk:=l} (λW a=>Wl _ l.1 f (eF a)) ?_);refine TE.rt λW a=>⟨rfl,a.uT ?_⟩;have e:jH s key={l6 S m21 with wb:=true,wk:=if s.cl then S.on.k0 else S.on.k1,on:={(l6 S m21).on with yC:=true}}:=by rw[k.out,p.o];unfold jH;rw[t];rfl
  rw[e];show _=_
  kernel_rfl
theorem Mz{w:ay}{a:Nat}{L:eL}{n:Nat}{k:Int}(h:Whole w a 9 (L.map Value.string).toArray)(b:L.length=n):kb w.heap.size w (.slice none 0 0) (.slice (some ⟨a,0,none⟩) n n) (.slice none 0 0) (.slice none 0 0) ⟨k,[],L,[],[]⟩:=by
 subst b;refine⟨.inl ⟨rfl,_,_,rfl⟩,.inr ⟨a,0,L.length,by rw[aM],by rw[aM];exact ak _,h.inside,λj x c=> ?_⟩,⟨[],.inl ⟨rfl,_,_,rfl⟩,trivial⟩,.inl ⟨rfl,_,_,rfl⟩⟩;rw[aW,h.at_,eg];exact c
structure oO(s:aX):Prop where
 wn:s.wn<=999999000
 out:s.out.size<=999999999000000
 since:s.since<=999999999000000
theorem oO.room{s:aX}(h:oO s):Room s:=⟨by have:=h.wn;omega,by have:=h.out;omega,by have:=h.since;omega⟩
theorem oO.said{s:aX}(h:oO s)(m:de)(hm:(db m).size<=32768):Room (l6 s m):=by
 have a:=DT s (db m) hm;exact⟨by show s.wn+1<=_;have:=h.wn;omega,by show(nR s (db m)).out.size<=_;have:=h.out;omega,by show s.since+1<=_;have:=h.since;omega⟩
def Lf(key p sig:List Int):de:=⟨31,[],[dB key,strOfNums p,dB sig],[],[]⟩
theorem V9{key p sig:aR}(a:key.length=32)(b:p.length=32)(c:sig.length=64):Cb (Lf key p sig):=by
 refine⟨⟨#[115,115,115]⟩,(show dh 31=_ from by decide),?_⟩;show I7 [115,115,115] (Lf key p sig);exact⟨⟨_,_,rfl,by rw[eX 32 a];decide⟩,⟨_,_,rfl,by rw[bG,b];decide⟩,⟨_,_,rfl,by rw[eX 64 c];decide⟩,rfl,rfl,rfl,rfl⟩
theorem OJ{key p sig:aR}(a:key.length=32)(b:p.length=32)(c:sig.length=64):(db (Lf key p sig)).size=179:=by
 rw[<-aj,pB (m:=Lf key p sig) (f:=⟨#[115,115,115]⟩) (show dh 31=_ from by decide)];show([(31:Int)]++(cG (dB key)++(cG (strOfNums p)++(cG (dB sig)++ [])))).length=179;simp only[List.length_append,eQ,bG,b,eX 32 a,eX 64 c,List.length_cons,List.length_nil]
theorem zN{P:Nat->Prop}{w:ay}{vs:cH}{L:eL}{x:bB}{t:eL}(h:iB P w vs (L.map Value.string))(b:L=x::t):∃a o c,vs= .slice (some ⟨a,o,none⟩) L.length c/\P a/\a<w.heap.size/\ ∀j y,L[j]?=some y->w.cell? ⟨a,o+j,none⟩=some (.string y):=by
 rcases h with⟨h,_⟩|⟨a,o,c,d,k,e,f,g⟩
 .rw[b]at h;cases h
 .exact⟨a,o,c,by rw[d,aM],e,f,λj y i=>g j (.string y) (by rw[bi,i];rfl)⟩
theorem Ns{E:gn}{w0 w:ay}{g gh:Nat}{vw re e:cH}{s:aX}(cx:Ctx E w0 g w)(d:bC s)(h:cP w g gh vw re e s)(row:gJ)(a:s.cl=true\/s.on.eN=false\/s.on.done=true):
 Calls prog 117 #[.pointer (some ⟨g,0,none⟩),.agg row] w λr f=>r= .returned (bM (E 5))/\Below w.heap.size w f:=by
 cases b:s.cl<;>cases c:s.on.eN<;>cases i:s.on.done
 all_goals first
 |(rw[b,c,i]at a;exact absurd a an)
 |refine TC.enter func117 ntmps117 _ _ (h.hr d) ?_
  refine T.one 0 (TO.J (z:=row.size) λk=> ?_);refine T.lw 0 _ (cx.env.gY.var 5 an) ga ?_;exact TE.rv λW j=>⟨rfl,j.below⟩
theorem FW{E:gn}{w0 w:ay}{g gh:Nat}{vw re:cH}{s:aX}(cx:Ctx E w0 g w)(e:bC s)(h:cP w g gh vw re .nilIface s)(k:Int)(f vs i j:cH)(L:eL)(hm:iB (· ≠g) w vs (L.map Value.string))(x:bB)(b:L= [x])(l:x.size≠32)(m:s.cl=false)(n:s.on.eN=true)(A:s.on.done=false):
 Calls prog 117 #[.pointer (some ⟨g,0,none⟩),.agg (dP k f vs i j)] w λr p=>r= .returned (bM (E 2))/\Below w.heap.size w p:=by
 obtain⟨B,o,c,rfl,q,t,d⟩:=zN hm b;have c0:=d 0 x (by rw[b];rfl);rw[b];unfold dP;refine TC.enter func117 ntmps117 _ _ (h.hr e) ?_;refine T.one 0 (TO.J (z:=5) λC=> ?_);refine T.lw 4 _ c0 ga ?_;refine T.one 5 (TO.qk (v:= .iface 356 (.pointer (some (E 2)))) (λW a=>(Lu (cx.iC a.below) e (eF a) x l).mono λr D ⟨u,y⟩=>⟨u,y▸aw _ _⟩) ?_);exact TE.rv λW a=>⟨rfl,a.below⟩
theorem PA{E:gn}{w0 w:ay}{g gh:Nat}{vw re:cH}{s:aX}(cx:Ctx E w0 g w)(y:bC s)(h:cP w g gh vw re .nilIface s)(m:de)(hk:m.kind=30)(vu vs vn vb:cH)(hm:iB (· ≠g) w vs (m.S.map Value.string))(x:bB)(P:m.S= [x])(R:x.size=32)(A:di s.on.draw (bI x)≠0)(B:s.cl=false)(U:s.on.eN=true)(hd:s.on.done=false)(hz:te s.on)(V:oO s):
 Calls prog 117 #[.pointer (some ⟨g,0,none⟩),.agg (dP m.kind vu vs vn vb)] w λr w'=>r= .returned .nilIface/\cP w' g gh vw re .nilIface (fE s m).1/\w.grownBy w' (some g):=by
 obtain⟨gs,o,c,rfl,X,ab,I⟩:=zN hm P;have c0:=I 0 x (by rw[P];rfl);rw[P,hk];obtain⟨Q,b⟩:∃S,Hid (S={s with on:={s.on with p0:=bI x,sec:=eE (di s.on.draw (bI x))}}):=⟨_,aa rfl⟩;obtain⟨e,l⟩:=eZ (lX s.host);obtain⟨j,d⟩:∃S,Hid (S={Q with on:={Q.on with hb:=dB e}}):=⟨_,aa rfl⟩;obtain⟨C,D⟩:=eZ (fQ j.on);obtain⟨n,q⟩:=eZ (qX s.host C)
 have hA:Hid ((fE s m).1=jH (l6 j (Lf e s.on.p1 n)) e):=aa (by
  unfold fE;rw[if_neg (by rw[B,U,hd];decide),P]
  have hs:gZ s x=(Q,none):=by
   unfold gZ;rw[if_neg (by rw[R];decide)];dsimp only;rw[if_neg A,if_neg A,if_neg (by rw[B];decide:¬s.cl=true),b.o]
  show(match gZ s x with|(s1,some k)=>(s1,some k)|(s1,none)=>_).1=_;rw[hs];dsimp only;rw[q.o,D.o,d.o,l.o,b.o]
  rfl)
 have J:bC Q:=by rw[b.o];exact{y with nv:=⟨by rw[aj,R],c8 x⟩,iH:=⟨tN _,cm (oV _)⟩}
 have f:bC j:=by rw[d.o];exact{J with}
 have t:e.length=32:=by rw[l.o];exact mN _
 have F:dn e:=⟨t,by rw[l.o];exact cm (A6 _)⟩;have G:n.length=64:=by rw[q.o];exact xk _ _
 have Y:jr n:=by rw[q.o];exact cm (Eb _ _)
 have K:dn C:=by rw[D.o];exact uy _
 have Z:=K.1;have M:=y.mh.1;have N:bI (strOfNums C)=C:=cJ (jG K.2);have O:Hid (te j.on):=aa (by rw[d.o,b.o];exact⟨hz.l0,hz.l1,hz.i0,hz.i1,by show(dB e).size<=_;rw[eX 32 t];decide⟩);have u:Hid (oO j):=aa (by rw[d.o,b.o];exact⟨V.wn,V.out,V.since⟩);have H:=aa (OJ (key:=e) (p:=s.on.p1) (sig:=n) t M G);unfold dP;clear I hm;refine TC.enter func117 ntmps117 _ _ (h.hp y) ?_;refine T.one 0 (TO.J (z:=5) λbm=> ?_);refine T.lw 4 _ c0 (ek X) ?_;refine T.one 5 (TO.BZ (s':={s with on:={s.on with p0:=bI x,sec:=eE (di s.on.draw (bI x))}}) (b.o▸J) (λW a=>SK B y (eF a) x R A) ?_);refine T.one 5 (TO.qk (v:= .agg (ai .u8 e)) (λW a=>by rw[l.o];exact sm s.host y.host.1 y.host.2 W (cx.hp a).env.words (cx.hp a).env.first) ?_);refine T.one 6 (TO.J (z:=32) λbk=> ?_);refine T.one 2 (TO.qk (λW a=>Od e F W) ?_);refine T.qm 4 0 8 (.agg (tD {s.on with p0:=bI x,sec:=eE (di s.on.draw (bI x)),hb:=dB e})) ?_;refine T.one 5 (TO.qk (v:= .agg (ai .u8 C)) (λW a=>by rw[D.o,d.o,b.o];exact J7 (s:={s with on:={s.on with p0:=bI x,sec:=eE (di s.on.draw (bI x)),hb:=dB e}}) (by have:=f;rw[d.o,b.o]at this;exact this) (by have:=O.o;rw[d.o,b.o]at this;exact this) (cx.hp a).env.words (cx.hp a).env.first) ?_);refine T.one 6 (TO.J (z:=32) λbh=> ?_);refine T.one 7 (TO.J (z:=32) λbp=> ?_);refine TC.rg [9,17,43] ?_;refine T.Xv 8 4 s.on.p1 ?_;refine T.Xv 15 3 C ?_;refine T.one 16 (TO.qk (v:= .agg (ai .u8 n)) (λW a=>by have:=Gz s.host y.host.1 y.host.2 (strOfNums C) (by rw[<-aj,N,Z];decide) W (cx.hp a).env.words (cx.hp a).env.first (cx.hp a).env.ord;rw[N,<-q.o]at this;exact this) ?_);refine T.one 17 (TO.qk (λW a=>Lv n G Y W) ?_);refine T.one 18 (TO.news (z:=3) λbs=> ?_);refine T.put 0 (eY gh vw re .nilIface j) (he:=by rw[d.o,b.o];kernel_rfl) ?_;refine T.one 20 (TO.BZ (show bC (l6 j (Lf e s.on.p1 n))from f.packed _ j.waits) (λW a=>D8 (Lf e s.on.p1 n) (.slice none 0 0) (.slice (some ⟨bs,0,none⟩) 3 3) (.slice none 0 0) (.slice none 0 0) (V9 t M G) (by rw[H.o];decide) (by rw[H.o];decide) f u.o.room.wn u.o.room.out u.o.room.since (cx.hp a).env.rows (cx.hp a).env.pX (cx.hp a).env.order (Mz (L:= [dB e,strOfNums s.on.p1,dB n]) (Rf (a.lay (List.mem_of_getElem? (i:=5) rfl))) rfl) (eF a)) ?_);refine T.one 2 (TO.BZ (Ap (f.packed _ j.waits) F) (λW a=>FV (cx.hp a) (f.packed _ j.waits) (eF a) e F O.o (u.o.said _ (by rw[H.o];decide))) ?_);exact TE.rv λW a=>⟨rfl,by rw[hA.o];exact a.uT rfl⟩
end Go.Proofs.P
