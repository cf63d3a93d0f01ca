/- Lemmas on which SessionPins rests. -/
import Derived.Test.YtcjcibnggioknaaGreatDoorZ25
import Derived.Test.YtcjcibnggioknaaGreatDoorZ29
set_option maxRecDepth 100000
set_option maxHeartbeats 40000000
set_option linter.unusedVariables false
open Go.RowKit Go.Spk
open Go.Proofs.Tryz
namespace Go.Proofs.P
def Ca(E:Nat->Addr)(w:World):Option Nat->Value->Prop
 |none,v=>v= .nilIface
 |some k,v=> ∃p,v=dl p/\sc E w k p
section
variable {E:Nat->Addr}{w w':World}{L:List Nat}{Kw:Nat->Prop}{g gh:Nat}{s:aX}
theorem Ca.grow{o:Option Nat}{v:cH}(h:Ca E w o v)(a:ci L w w')(b:Jf w L):Ca E w' o v:=by
 cases o with
 |none=>exact h
 |some k=>
  obtain⟨p,c,d⟩:=h;exact⟨p,c,d.grow a b⟩
theorem Do{o:Option Nat}{v:cH}(h:Ca E w o v):o=none/\v= .nilIface\/ ∃k p,o=some k/\v= .iface 82 (.pointer (some ⟨p,0,none⟩)):=by
 cases o with
 |none=>exact .inl ⟨rfl,h⟩
 |some k=>obtain⟨p,a,_⟩:=h;exact .inr ⟨k,p,rfl,a⟩
def od(Kw:Nat->Prop)(E:Nat->Addr)(w:World)(g gh:Nat)(s:aX):Prop:=gU Kw E w g gh s\/ ∃k p,uJ E w g gh k p s
theorem od.grow(h:od Kw E w g gh s)(k:ci L w w')(h1:g∉L)(a:gh∉L)(c:∀b,Kw b->b∉L)(hF:Jf w L):od Kw E w' g gh s:=
 h.imp (·.grow k h1 a c) λ⟨q,p,h⟩=>⟨q,p,h.grow k h1 a hF⟩
theorem od.BZ(h:od Kw E w g gh s):∃b,Whole w g 77 b:=by
 rcases h with h|⟨q,p,h⟩
 .obtain⟨c,a,_⟩:=h.B;exact⟨_,a⟩
 .obtain⟨c,d,a,_⟩:=h.B;exact⟨_,a⟩
theorem od.Q4(h:od Kw E w g gh s):iA E w gh s.eB:=h.elim (·.eB) λ⟨_,_,h⟩=>h.eB
theorem od.ok(h:od Kw E w g gh s):bC s:=h.elim (·.ok) λ⟨_,_,h⟩=>h.ok
theorem od.noF(h:od Kw E w g gh s):Jf w [g]:=by
 obtain⟨b,a⟩:=h.BZ;exact Jf.cons a an Jf.nil
theorem od.live(h:od Kw E w g gh s)(a:s.gone=false):gU Kw E w g gh s:=h.resolve_right λ⟨_,_,h⟩=>by have:=h.gone;rw[a]at this;cases this
theorem FP.all{a:cH}{o:Option Nat}(h:FP Kw E w g gh a s o):od Kw E w g gh s/\Ca E w o a:=by
 cases o with
 |none=>exact⟨.inl h.2,h.1⟩
 |some k=>obtain⟨p,c,b⟩:=h;exact⟨.inr ⟨k,p,b⟩,p,c,b.err⟩
theorem od.Ij(h:od Kw E w g gh s):
 Calls prog 43 #[.pointer (some ⟨g,0,none⟩)] w λr w'=>r= .returned (.string s.out)/\od Kw E w' g gh (pb s)/\w.grownBy w' (some g):=by
 have hF:=h.noF;have b:g≠gh:=by obtain⟨l,f⟩:=h.BZ;exact fW f h.Q4 an
 rcases h with h|⟨q,p,h⟩
 .obtain⟨c,d,i⟩:=h.B;refine(XK h.ok d).mono ?_;rintro r w' ⟨rfl,e,a⟩;exact⟨rfl,.inl ⟨⟨c,e,rT i a⟩,Whole.only h.eB a (bE (gT b)),h.ok.zd ⟨#[]⟩,h.gone⟩,a⟩
 .obtain⟨c,j,d,k⟩:=h.B;refine(XK h.ok d).mono ?_;rintro r w' ⟨rfl,e,a⟩;exact⟨rfl,.inr ⟨q,p,⟨c,j,e,k⟩,h.err.grow (ci.bZ a) hF,Whole.only h.eB a (bE (gT b)),h.ok.zd ⟨#[]⟩,h.gone⟩,a⟩
def qh(s:aX):Bool:= !s.gone&&decide (0<s.c7)&& !x9 s
theorem gU.vars(h:gU Kw E w g gh s):Calls prog 10 #[.pointer (some ⟨g,0,none⟩)] w λr w'=>r= .returned (.agg (fM (qh s) s.gone s.c7 s.waits.length s.id s.key))/\Below w.heap.size w w':=by
 obtain⟨f,b,d⟩:=h.B;obtain⟨A,c,rfl⟩:=iB.len d;have a:=h.gone;refine To h.ok b _ _ (.inr ⟨rfl,a,?_⟩);unfold qh;rw[a]
 by_cases e:s.c7=0
 .exact .inl ⟨af,by rw[e];rfl⟩
 .exact .inr ⟨af,by rw[show decide (0<s.c7)=true by simp;omega];cases x9 s<;>rfl⟩
theorem od.vars(h:od Kw E w g gh s):Calls prog 10 #[.pointer (some ⟨g,0,none⟩)] w λr w'=>r= .returned (.agg (fM (qh s) s.gone s.c7 s.waits.length s.id s.key))/\Below w.heap.size w w':=by
 rcases h with h|⟨k,p,h⟩
 .exact h.vars
 .obtain⟨d,e,b,A,c,rfl⟩:=h.B;have a:=h.gone;exact To h.ok b _ _ (.inl ⟨_,_,rfl,a,by unfold qh;rw[a];rfl⟩)
end
structure PB where
 gp:Nat
 gC:Nat
 hC:Nat
 gS:Nat
 hS:Nat
abbrev PB.N(y:PB):List Nat:= [y.gC,y.hC,y.gS,y.hS]
abbrev PB.M(y:PB):List Nat:= [y.gp,y.gC,y.hC,y.gS,y.hS]
def PB.kw(y:PB)(B b:Nat):Prop:=b<B/\b∉y.M
structure PW(E:Nat->Addr)(w0 w:World)(y:PB):Prop where
 env:Env w0 E
 Jw:Below w0.heap.size w0 w
 Nu:30<=w0.heap.size
 lo:∀m∈y.M,w0.heap.size<=m
 ne:y.gC≠y.gS
 neh:y.hC≠y.hS
theorem PW.ctx{E:gn}{w0 w W:ay}{y:PB}(h:PW E w0 w y)(k:ci y.M w W){g:Nat}(a:g∈y.M):Ctx E w0 g W:=⟨h.env,h.Jw.trans (k.below h.Jw.size h.lo),h.lo g a,h.Nu⟩
structure Q5(E:Nat->Addr)(y:PB)(B:Nat)(p:fe)(eC eS:Value)(V:World):Prop where
 c:od (y.kw B) E V y.gC y.hC p.c
 s:od (y.kw B) E V y.gS y.hS p.s
 eC:Ca E V p.qA eC
 eS:Ca E V p.qB eS
structure PX where
 r:List En
 d:Nat
 xC:Option Addr×Nat×Nat
 xS:Option Addr×Nat×Nat
 eC:Value
 eS:Value
abbrev yv(w:World)(y:PB)(p:fe)(x:PX):List En:= [bl 1 y.gp true (kL 35 [1,1,1,1,1,1,1,1]) [[.pointer (some ⟨y.gC,0,none⟩)],[.pointer (some ⟨y.gS,0,none⟩)],[.string p.mE],[.string p.ma],[sl x.xC],[sl x.xS],[x.eC],[x.eS]],ow 2 w.heap.size 9 (sl x.xC) (p.mW.map Value.string),ow 3 w.heap.size 9 (sl x.xS) (p.mX.map Value.string)]
abbrev xN(E:Nat->Addr)(w:World)(y:PB)(p:fe)(x:PX):List En:=rE w true [y.gC,y.hC,y.gS,y.hS] x.r x.d (Q5 E y w.heap.size p x.eC x.eS)::yv w y p x
section
variable {E:Nat->Addr}{w0 w W W':World}{y:PB}{p p2:fe}{x:PX}{eC eS:Value}{r rest:List En}{d B:Nat}{L M:List Nat}{z:Bool}{q:World->Prop}
def El(y:PB)(B:Nat)(W:World)(r:List En):Prop:= ∀x∈r,∀k,x.B k->k∉y.N/\ ¬y.kw B k/\ ∀a,¬Whole W k 86 a
theorem Q5.stays(h:Q5 E y B p eC eS W)(i:El y B W r):qI r (Q5 E y B p eC eS) W:=λV L f j=>by
 have hF:Jf W L:=λp m n d=>let⟨x,e,a⟩:=j _ d;(i x e _ a).2.2 m n;have g:∀k∈y.N,k∉L:=λk a d=>let⟨x,e,l⟩:=j _ d;(i x e _ l).1 a;have a:∀b,y.kw B b->b∉L:=λb l d=>let⟨x,e,a⟩:=j _ d;(i x e _ a).2.1 l;exact⟨h.c.grow f (g _ bj) (g _ bj) a hF,h.s.grow f (g _ bj) (g _ bj) a hF,h.eC.grow f hF,h.eS.grow f hF⟩
theorem pT{k:Nat}{t b:fg}{cs cs':gJ}{c:Nat×Nat}(h:W.heap[k]?=some (.cells cs t c))(d:t≠b):¬Whole W k b cs':=λa=>by
 have a:W.heap[k]?=some (.cells cs' b (0,0)):=a;rw[h]at a;injection a with a;injection a with _ e _;exact d e
theorem RW{i b:Nat}{v:cH}{xs:gF}(h:W.ownsRow b 9 1 v xs.length xs)(f:B<=b)(k:Nat)(a:(ow i b 9 v xs).B k):¬y.kw B k/\ ∀c,¬Whole W k 86 c:=by
 have a:v.ownBlock=some k:=a;refine⟨λd=>by have:=Bj h k a;have:=d.1;omega,λc e=>Fl h e an a.symm⟩
theorem zY(c:Hp w M (rE w z y.N rest d q::yv w y p x) W)(j:ci L W W')(l:∀k∈L,k∈y.N):El y w.heap.size W' (yv w y p x):=by
 have m:=c.off;have g:=c.ins
 have key:∀e∈yv w y p x,∀k,e.B k-> ¬y.kw w.heap.size k/\ ∀f,¬Whole W k 86 f:=by
  intro e b k a;simp only[List.mem_cons,List.not_mem_nil,or_false]at b;rcases b with rfl|rfl|rfl
  .obtain rfl:k=y.gp:=a;exact⟨λh=>h.2 (.head _),λf=>pT (c.en (yv w y p x)[0] bj).2 an⟩
  .exact RW (c.en (ow 2 w.heap.size 9 (sl x.xC) (p.mW.map Value.string)) bj) (ak _) k a
  .exact RW (c.en (ow 3 w.heap.size 9 (sl x.xS) (p.mX.map Value.string)) bj) (ak _) k a
 intro e b k a;have i:=m e b k a;refine⟨i,(key e b k a).1,λf n=>(key e b k a).2 f ?_⟩;exact(j.block k (g e (.tail _ b) k a) (λo=>i (l k o))).symm.trans n
theorem Q5.apart(h:Q5 E y B p eC eS W):y.gC≠y.hS/\y.gS≠y.hC:=by
 obtain⟨_,a⟩:=h.c.BZ;obtain⟨_,b⟩:=h.s.BZ;exact⟨fW a h.s.Q4 an,fW b h.c.Q4 an⟩
theorem Q5.noF(h:Q5 E y B p eC eS W)(b:∀m∈L,m∈y.N):Jf W L:=λk g a d=>by
 obtain⟨_,e⟩:=h.c.BZ;obtain⟨_,f⟩:=h.s.BZ;have:=b k d;simp only[List.mem_cons,List.not_mem_nil,or_false]at this;rcases this with rfl|rfl|rfl|rfl
 .exact pT e an a
 .exact pT h.c.Q4 an a
 .exact pT f an a
 .exact pT h.s.Q4 an a
theorem Q5.aaQ(h:Q5 E y B p eC eS W)(f:PW E w0 w y)(k:ci L W W')(d:∀m∈L,m=y.gC\/m=y.hC){s':aX}(i:od (y.kw B) E W' y.gC y.hC s'):Q5 E y B {p with c:=s'} eC eS W':=by
 have hF:=h.noF (L:=L) λm a=>by rcases d m a with rfl|rfl<;>simp
 have g:=h.apart;exact⟨i,h.s.grow k (λa=>(d _ a).elim (λe=>f.ne e.symm) g.2) (λa=>(d _ a).elim (λe=>g.1 e.symm) λe=>f.neh e.symm) (λb j a=>j.2 (by rcases d _ a with rfl|rfl<;>simp)) hF,h.eC.grow k hF,h.eS.grow k hF⟩
theorem Q5.aaR(h:Q5 E y B p eC eS W)(f:PW E w0 w y)(k:ci L W W')(d:∀m∈L,m=y.gS\/m=y.hS){s':aX}(i:od (y.kw B) E W' y.gS y.hS s'):Q5 E y B {p with s:=s'} eC eS W':=by
 have hF:=h.noF (L:=L) λm a=>by rcases d m a with rfl|rfl<;>simp
 have g:=h.apart;exact⟨h.c.grow k (λa=>(d _ a).elim f.ne g.1) (λa=>(d _ a).elim (λe=>g.2 e.symm) f.neh) (λb j a=>j.2 (by rcases d _ a with rfl|rfl<;>simp)) hF,i,h.eC.grow k hF,h.eS.grow k hF⟩
theorem rO(j:PW E w0 w y)(hz:fU p)(a:Hp w y.M (xN E w y p x) W):
 Calls prog 19 #[.pointer (some ⟨y.gp,0,none⟩)] W λe W'=> ∃z:List En×Nat,e= .returned (.tuple #[])/\Hp w y.M (xN E w y (cU p) ⟨z.1,z.2,x.xC,x.xS,x.eC,x.eS⟩) W':=by
 have s1:p.ma.size+p.c.out.size<=9223372036854775807:=by have:=hz.ma;have:=hz.co;omega
 have s2:p.mE.size+p.s.out.size<=9223372036854775807:=by have:=hz.mE;have:=hz.so;omega
 unfold xN yv at a;refine TC.EO func19 ntmps19 a ?_;refine TC.rg [130001003] ?_;refine T.one 8 (TO.re (λ(_:Unit) V=>Q5 E y w.heap.size {p with c:=pb p.c} x.eC x.eS V) [y.gC] (vf:=λ_=> .string p.c.out) (λW a f=>f.c.Ij.mono λr W' ⟨g,i,b⟩=>⟨(),g,(f.aaQ j (ci.bZ b) bj i).stays (zY (p:=p) (x:=x) a (ci.bZ b) bj),ci.bZ b⟩) λ_ d=> ?_);refine T.qv 9 (.string (p.ma++p.c.out)) ?_;refine TC.rg [130001002] ?_;refine T.one 8 (TO.re (λ(_:Unit) V=>Q5 E y w.heap.size {p with c:=pb p.c,s:=pb p.s} x.eC x.eS V) [y.gS] (vf:=λ_=> .string p.s.out) (λW a f=>f.s.Ij.mono λr W' ⟨g,i,b⟩=>⟨(),g,(f.aaR j (ci.bZ b) bj i).stays (zY (p:={p with c:=pb p.c,ma:=p.ma++p.c.out}) (x:=x) a (ci.bZ b) bj),ci.bZ b⟩) λ_ k=> ?_);refine T.qv 9 (.string (p.mE++p.s.out)) ?_;refine TE.rt λW a=>⟨(_,k),rfl,a.rq λV h=>⟨h.c,h.s,h.eC,h.eS⟩⟩
end
abbrev uU:List Value:=List.replicate 32 (.int .u8 0)
abbrev sN:Value:= .string ⟨#[]⟩
abbrev bF:Value:= .bool false
abbrev aav(e:Bool)(b c:ByteArray)(host d:List Int)(a:Int):List (List Value):= [[.bool e],[.string b],[.string c],host.map (.int .u8),d.map (.int .u8),[.int .i64 a]]
def mw(e:Bool)(b c:ByteArray)(host d:List Int)(a:Int):Array Value:=(aav e b c host d a).flatten.toArray
theorem Gk(e:Bool)(b c:bB)(host d:aR)(a:Int)(f:host.length=32)(g:d.length=32):(mw e b c host d a).size=68:=by
 simp[mw,f,g]
abbrev acl:List (List Value):= [[bF,sN,sN]++uU++uU++ [.int .i64 0],[.int .i64 0],[.pointer none],[sN],[.int .u64 0,bF]++uU,[.int .u64 0,bF]++uU++ [sN,.nilIface],[sN],[sN,sN,bF]++uU++ [bF,bF,sN,sN,sN,sN,sN]++uU++uU++uU++uU++uU++ [bF,bF,bF]++uU++uU,[.int .i64 0],uU,uU,[.slice none 0 0],[.int .i64 0],[.nilIface]]
def VH(e:Bool)(a c:ByteArray)(host d:List Int)(b:Int):aX:=⟨e,a,c,host,d,b,⟨⟨#[]⟩,if e then 16 else 0,⟨#[]⟩,none⟩,fH++a,0,false,av,0,false,av,⟨#[]⟩,fH++a++iL,ti,0,av,av,[],0,false⟩
theorem VJ(e:Bool)(b c:bB)(host d:aR)(a:Int):oA e b c host d a=km (VH e b c host d a):=rfl
theorem VI(e:Bool)(b c:bB)(host d:aR)(a:Int)(f:dn host)(g:dn d):bC (VH e b c host d a):=⟨f,g,dn.av,dn.av,dn.av,dn.av,dn.av,dn.av,dn.av,dn.av,dn.av,dn.av,dn.av,dn.av⟩
theorem Ga{s:aX}(a:bC s):bC (km s):=by
 unfold km;dsimp only;cases s.cl<;>exact{a with}
section
variable {Kw:Nat->Prop}{E:Nat->Addr}{w:World}
theorem aaV(en:Env w E)(B:30<=w.heap.size)(e:Bool)(a c:bB)(host d:aR)(b:Int)(hs:a.size<=40)(Y:py a=true)(s:c.size<=64)(I:dn host)(J:dn d):
 Calls prog 6 #[.agg (mw e a c host d b)] w λr Z=> ∃g h,r= .returned (.tuple #[.pointer (some ⟨g,0,none⟩),.nilIface])/\w.heap.size<=g/\w.heap.size<=h/\gU Kw E Z g h (oA e a c host d b)/\Below w.heap.size w Z:=by
 have C:=VI e a c host d b I J;have L:=I.1;have M:=J.1;have N:=Gk e a c host d b I.1 J.1;have D:=aa (λW=>N5 a af Y W);have HT:=aa (λg W (j:Hp w [] g W)=>(en.below j.below).acv);have O:=aa B;obtain⟨y,f⟩:=aP (fH++a++iL);obtain⟨n,l⟩:=aP (fH++a);have P:y.size=n.size+2:=by rw[f,l,aN];rfl
 have F:y.size<=100:=by rw[f,aN,aN];show 8+a.size+2<=_;omega
 have ab:((y.size:Nat):Int) -2=((n.size:Nat):Int):=af;have ad:(n.size:Int)<=(y.size:Int):=af;have hex:y.extract 0 n.size=n:=mv (by rw[oh,f,gP,<-l,nT,Nat.sub_zero,List.take_left' (aj n)]);obtain⟨S,A⟩:=eZ (VH e a c host d b);have Q:Hid (Room S):=aa (by rw[A.o];exact⟨nL rfl,by show(fH++a++iL).size<=_;rw[<-f];omega,nL rfl⟩);rw[<-f]at D;have s:=aa s;have m:=aa (by rw[A.o];exact C:bC S);have R:=aa f;have U:=aa l;have V:=aa (by rw[A.o];exact s.o:S.pm.size<=64);have al:IntKind.i64.wrap ((n.size:Nat):Int)=((n.size:Nat):Int):=xG af af;clear hs Y B C I J P F f l;refine TC.enter func6 ntmps6 [] [] (Hp.nil [] w) ?_;refine T.one 0 (TO.J (z:=68) (hgo:=λ_ k=>k) λbc=> ?_);refine T.q _ ?_;refine T.q _ ?_;refine T.fin ?_;refine TE.Ph ?_;refine TC.split 0 [1,1,1,32,32,1] (aav e a c host d b) (he:=by simp[mw]) (hl:=by simp[L,M]) ?_;refine T.one 2 (TO.qk (v:= .tuple #[.string y,.nilIface]) (λW _=>(D.o W).mono λr W' ⟨u,x⟩=>⟨u,x▸aw _ _⟩) ?_);refine TC.rg [] ?_;refine T.qm 0 0 6 (.agg (mw e a c host d b)) ?_;refine T.one 3 (TO.cp (cs:=nk E ⟨⟨#[]⟩,if e then 16 else 0,⟨#[]⟩,none⟩) (t:=102) (λW _=>(Q3 E e W).mono λr W' ⟨u,x,X⟩=>⟨u,x,by rw[X];exact(aw _ W).alloc (ak _) _⟩) λh=> ?_);refine T.bd 10 acl ?_;refine T.one 11 (TO.J (z:=479) (hz:=by simp[N]) (hgo:=λ_ k=>k) λg=> ?_);refine T.q _ ?_;refine T.fin ?_;refine TE.Ph ?_;have o:((eY h (.slice none 0 0) .nilIface .nilIface S).set 6 [.int .i64 1]).map List.length=FA:=by rw[List.map_set,iQ m.o];rfl
 refine TC.split 2 FA ((eY h (.slice none 0 0) .nilIface .nilIface S).set 6 [.int .i64 1]) (he:=by rw[A.o,R.o,U.o];simp[VH,eY,mw,av,ti];rfl) (hl:=o) ?_;have G:∀e,(oA e a c host d b).waits= []/\(oA e a c host d b).gone=false/\(oA e a c host d b).eB=⟨⟨#[]⟩,if e then 16 else 0,⟨#[]⟩,none⟩:=λe=>by cases e<;>exact⟨rfl,rfl,rfl⟩
 have K:=aa (G e)
 have H:=aa (λW (u:cP W g h (.slice none 0 0) .nilIface .nilIface (km S)) (x:iA E W h ⟨⟨#[]⟩,if e then 16 else 0,⟨#[]⟩,none⟩)=>(show gU Kw E W g h (oA e a c host d b)from by
  rw[VJ,<-A.o]at K⊢;exact⟨⟨_,u,.inl ⟨by rw[K.o.1];rfl,_,_,rfl⟩⟩,by rw[K.o.2.2];exact x,Ga m.o,K.o.2.1⟩))
 clear G o;cases e
 all_goals
  refine go ?_;refine T.put 2 (eY h (.slice none 0 0) .nilIface .nilIface S) (he:=by rw[A.o];rfl) ?_;refine T.one 1 (TO.cb 2 (eY h (.slice none 0 0) .nilIface .nilIface (km S)) (λW j=>(Ue m.o V.o Q.o (HT.o _ W j) (ap O.o (j.ge (p:=2) rfl)) (j.lay (ah (i:=2) rfl))).mono λr W' ⟨u,x,X⟩=>⟨u,⟨iQ (Ga m.o),x⟩,ci.bZ X⟩) ?_);refine TE.zc λW j=>⟨g,h,rfl,j.ge (p:=2) rfl,j.ge (p:=1) rfl,H.o W (j.lay (ah (i:=2) rfl)) ?_,j.below⟩;have:=(j.um (p:=1) rfl).1;rw[Array.toArray_toList]at this;exact this
end
end Go.Proofs.P
