/- Lemmas on which SessionPins rests. -/
import Derived.Test.YtcjcibnggioknaaGreatDoorZ21
set_option maxRecDepth 100000
set_option maxHeartbeats 40000000
set_option linter.unusedVariables false
open Go.RowKit Go.Spk
open Go.Proofs.Tryz
namespace Go.Proofs.P
theorem Pr{P:Nat->Prop}{w:ay}{n vs d p:cH}{m:de}(k:XX m)(h:mV P w n vs d p m):∃g o c,∃f:Nat->Value,d= .slice (some ⟨g,o,none⟩) 10 c/\ ∀i,i<10->w.cell? ⟨g,o+i,none⟩=some (f i)/\ee w (f i) (m.N.getD i [])/\(m.N.getD i []).length<=1000000:=by
 obtain⟨a,q,e⟩:=h.N;have b:a.length=10:=by rw[Xj e,k.n10]
 rcases q with⟨h,_⟩|⟨g,o,c,r,_,_,_,s⟩
 .rw[h]at b;cases b
 .refine⟨g,o,c,λi=>a.getD i .nilIface,b▸r,λi u=> ?_⟩;have j:m.N[i]?=some (m.N.getD i []):=by rw[bV,aQ (dp k.n10)];rfl
  obtain⟨v,l,t⟩:=aad e j;have:a.getD i .nilIface=v:=by rw[bV,l];rfl
  show w.cell? _=some (a.getD i .nilIface)/\ee w (a.getD i .nilIface) _/\_;rw[this];exact⟨s i v l,IQ t,k.each _ (ah j)⟩
abbrev Yo(x:Nat->ByteArray)(a b:Bool):Array Value:= #[.string (x 0),.string (x 1),.string (x 2),.string (x 3),.string (x 4),.string (x 5),.string (x 6),.string (x 7),.bool a,.bool b]
abbrev chP(x:Nat->ByteArray)(a b:Bool):List (List Value):= [[.string (x 0)],[.string (x 1)],[.string (x 2)],[.string (x 3)],[.string (x 4)],[.string (x 5)],[.string (x 6)],[.string (x 7)],[.bool a,.bool b]]
def Pk(E:Nat->Addr)(c:Nat)(r:Option (Bool×Bool))(e:Ending)(w:World):Prop:=match r with
 |none=> ∃p d,e= .returned (.tuple #[.agg (Yo (λ_=>⟨#[]⟩) false false),dl p])/\c<=p/\Whole w p 86 #[.string d,bM (E 12)]
 |some (a,b)=> ∃x,e= .returned (.tuple #[.agg (Yo x a b),.nilIface])
theorem LU(E:gn)(c ms:de)(kc:XX c)(ks:XX ms){Pc Ps:Nat->Prop}{K L M N O P Q V:cH}(w:ay)(F:mV Pc w K L M N c)(m:mV Ps w O P Q V ms)(hB:io c ms=none\/(c.B= [false]/\ms.B= [false]))(en:Env w E):
 Calls prog 148 #[.agg (dP c.kind K L M N),.agg (dP ms.kind O P Q V)] w λr I=>Pk E w.heap.size (io c ms) r I/\Below w.heap.size w I:=by
 obtain⟨xu,rfl⟩:=iB.form F.U;obtain⟨xs,rfl⟩:=iB.form F.S;obtain⟨xb,rfl⟩:=iB.form F.B;obtain⟨yu,rfl⟩:=iB.form m.U;obtain⟨ys,rfl⟩:=iB.form m.S;obtain⟨yb,rfl⟩:=iB.form m.B;obtain⟨gC,oC,cC,fC,rfl,G⟩:=Pr kc F;obtain⟨gS,oS,cS,fS,rfl,H⟩:=Pr ks m;have qC:∀W,Hid (Below w.heap.size w W->_):=λW=>aa λ(b:Below w.heap.size w W)=>zK w.heap.size _ _ _ _ c kc.wf W (F.at_.same (eR.cL b (Nat.le_refl _))) b.size (en.rows.below b);have qS:∀W,Hid (Below w.heap.size w W->_):=λW=>aa λ(b:Below w.heap.size w W)=>zK w.heap.size _ _ _ _ ms ks.wf W (m.at_.same (eR.cL b (Nat.le_refl _))) b.size (en.rows.below b);have kC:=aa kc;have kS:=aa ks;rw[kc.kind]at qC⊢;rw[ks.kind]at qS⊢;unfold dP;have G:=aa G;have H:=aa H;have ab:=m;clear m;refine TC.enter func148 ntmps148 [] [] (Hp.nil _ _) ?_;refine T.one 0 (TO.J (z:=5) λb0=> ?_);refine T.one 1 (TO.J (z:=5) λX=> ?_);refine T.one 2 (TO.J (z:=10) λY=> ?_);refine T.one 2 (TO.news (z:=10) λb3=> ?_);refine TC.split 3 [5,5] [[.int .i64 20,sl xu,sl xs,.slice (some ⟨gC,oC,none⟩) 10 cC,sl xb],[.int .i64 20,sl yu,sl ys,.slice (some ⟨gS,oS,none⟩) 10 cS,sl yb]] ?_;refine TC.lp 2 ?_;refine T.one 2 (TO.J (z:=5) λb4=> ?_);refine T.one 5 (TO.qk (λW d=>(qC W).out d.below) ?_);refine TE.rn ?_;refine T.one 2 (TO.J (z:=5) λb5=> ?_);refine T.one 5 (TO.qk (λW d=>(qS W).out d.below) ?_);refine TE.rn ?_;refine T.one 0 (TO.J (z:=10) λZ=> ?_);refine TC.split 6 [1,1,1,1,1,1,1,1,2] (chP (λ_=>⟨#[]⟩) false false) ?_;refine TC.inv (ι:=Nat×Int×(Nat->ByteArray)) [(9,13),(33,80)] (λy=> [(33,.int .i64 y.2.1)]) (λy s=>s.set 6 (bl 100 Z true (kL 253 [1,1,1,1,1,1,1,1,2]) (chP y.2.2 false false))) (λy=>y.1<=8/\y.2.1=(y.1:Int)/\ ∀j,j<y.1->EE c ms j=some (y.2.2 j)) (λy=>8 -y.1) (0,0,λ_=>⟨#[]⟩) ⟨af,rfl,λj hj=>absurd hj af⟩ ?_;intro R ⟨i,v,x⟩ ⟨o,u,hx⟩ hR l a;dsimp only at o u hx;have hX:=aa hx;have k:=λ(h:i<8) W=>VV Z i h W;rw[<-u]at k;clear hx
 have f:∀y,i<8->EE c ms i=some y->i+1<=8/\v+1=((i+1:Nat):Int)/\ ∀j,j<i+1->EE c ms j=some ((λj=>if j=i then y else x j) j):=λy h hy=>⟨h,by rw[u];rfl,λj hj=>by
  by_cases e:j=i
  .subst e;simp[hy]
  .simp only[if_neg e];exact hX.o j af⟩
 by_cases A:i=8
 .subst A;obtain rfl:v=8:=u;clear k f o
  ((repeat (first|(have x:=Jm.hk a;clear a;obtain⟨_,rfl,a⟩:=x)|(have x:=Jm.ha a;clear a;obtain⟨_,_,rfl,a⟩:=x)));(have x:=Jm.hn a;clear a;subst x))
  have m:io c ms=some (pd c ms,pd ms c):=Jo λi A=>by rw[hX.o i A];rfl
  obtain⟨X,Y⟩:=hB.resolve_left (by rw[m];simp);have e1:pd c ms=false:=by unfold pd;rw[X];rfl
  have e2:pd ms c=false:=by unfold pd;rw[Y];rfl
  rw[e1,e2]at m;have m:=aa m;have X:=aa X;have Y:=aa Y;clear e1 e2 hB;refine go ?_;refine TC.rg [100008] ?_;have qG:=λW=>aa λ(b:Below w.heap.size w W)=>AP w.heap.size 20 20 (sl xu) (sl xs) (.slice (some ⟨gC,oC,none⟩) 10 cC) (sl xb) (sl yu) (sl ys) (.slice (some ⟨gS,oS,none⟩) 10 cS) (sl yb) c W (F.at_.same (eR.cL b (Nat.le_refl _))) b.size X.o;have qH:=λW=>aa λ(b:Below w.heap.size w W)=>AP w.heap.size 20 20 (sl yu) (sl ys) (.slice (some ⟨gS,oS,none⟩) 10 cS) (sl yb) (sl xu) (sl xs) (.slice (some ⟨gC,oC,none⟩) 10 cC) (sl xb) ms W (ab.at_.same (eR.cL b (Nat.le_refl _))) b.size Y.o;simp only[dP]at qG qH;refine T.qc 2 (λt ht W d=>(qG W).out d.below) ?_;refine T.qc 5 (λt ht W d=>(qH W).out d.below) ?_;refine T.qm 0 6 9 (.agg (Yo x false false)) ?_;refine TE.TF ?_;exact λW d=>⟨by rw[m.o];exact⟨x,rfl⟩,d.below⟩
 .have o:i<8:=af;have k:=k o;have f:=λy=>f y o
  by_cases g:(i=4\/i=5)/\x (i -2)=⟨#[99,104,97,99,104,97,50,48,45,112,111,108,121,49,51,48,53]⟩
  .have F:EE c ms i=some aaL:=by
    unfold EE;rw[if_pos ⟨g.1,by rw[<-zJ c ms af af,hX.o (i -2) af,g.2];rfl⟩]
   have f:=aa (f _ F);obtain⟨rfl|rfl,g⟩:=g
   all_goals
    clear A o;simp at u g;subst u
    ((repeat (first|(have x:=Jm.hk a;clear a;obtain⟨_,rfl,a⟩:=x)|(have x:=Jm.ha a;clear a;obtain⟨_,_,rfl,a⟩:=x)));(have x:=Jm.hn a;clear a;subst x))
    refine go ?_;refine T.one 1 (TO.cf (vf:=λq=> .tuple #[.pointer (some ⟨Z,_,none⟩),.string q]) (p:=λ_ _ _ _=>True) (λ_ _ _ _ _ _ _ _=>trivial) (λW d=>(k W).mono λr W' ⟨s,C,n⟩=>⟨s,C,trivial,n⟩) λq q0 q1=> ?_);exact hR (_,_,_) _ _ f.o bj (by((repeat (first|apply Jm.known|apply Jm.any));exact Jm.nil)) ⟨_,rfl⟩
  .have D:o0 c ms i=EE c ms i:=by
    unfold EE;rw[if_neg λh=>g ⟨h.1,by have:=h.1;have e:=h.2;rw[<-zJ c ms af af,hX.o (i -2) af]at e;injection e⟩]
   have g:i=4\/i=5->((x (i -2)).toList== [99,104,97,99,104,97,50,48,45,112,111,108,121,49,51,48,53])=false:=λh=>by rw[beq_eq_false_iff_ne];exact λe=>g ⟨h,by rw[ByteArray.toList_eq]at e;exact ByteArray.ext (Array.toList_inj.1 e)⟩
   cases J:EE c ms i with
   |some y=>
    have f:=aa (f _ J)
    have qP:∀W,Hid (Below w.heap.size w W->Calls prog 182 #[fC i,fS i] W λe I=>e= .returned (.tuple #[.string y,.nilIface])/\Below W.heap.size W I):=λW=>aa λb=>by
     have:=Gp E (fC i) (fS i) _ _ W ((G.o i af).2.1.below b (Nat.le_refl _)) ((H.o i af).2.1.below b (Nat.le_refl _)) (G.o i af).2.2 (H.o i af).2.2 (en.below b);rw[<-o0,D,J]at this;exact this
    have o:i=0\/i=1\/i=2\/i=3\/i=4\/i=5\/i=6\/i=7:=af;have c1:=(G.o i af).1;have c2:=(H.o i af).1;clear D J;rcases o with rfl|rfl|rfl|rfl|rfl|rfl|rfl|rfl
    all_goals
     clear A;simp at u
     first|(replace g:=g (.inl rfl))|(replace g:=g (.inr rfl))|clear g
     subst u
     ((repeat (first|(have x:=Jm.hk a;clear a;obtain⟨_,rfl,a⟩:=x)|(have x:=Jm.ha a;clear a;obtain⟨_,_,rfl,a⟩:=x)));(have x:=Jm.hn a;clear a;subst x))
     refine go ?_;refine T.one 1 (TO.cf (vf:=λq=> .tuple #[.pointer (some ⟨Z,_,none⟩),.string q]) (p:=λ_ _ _ _=>True) (λ_ _ _ _ _ _ _ _=>trivial) (λW d=>(k W).mono λr W' ⟨s,C,n⟩=>⟨s,C,trivial,n⟩) λq q0 q1=> ?_);refine TC.rg [] ?_;refine T.lw 4 _ c1 List.not_mem_nil ?_;refine T.lw 9 _ c2 List.not_mem_nil ?_;refine T.one 10 (TO.qk (λW d=>(qP W).out d.below) ?_);exact hR (_,_,_) _ _ f.o bj (by((repeat (first|apply Jm.known|apply Jm.any));exact Jm.nil)) ⟨_,rfl⟩
   |none=>
    have hn:=aa (Jn o J)
    have qP:∀W,Hid (Below w.heap.size w W->Calls prog 182 #[fC i,fS i] W λe I=>e= .returned (.tuple #[.string ⟨#[]⟩,.iface 356 (.pointer (some (E 12)))])/\Below W.heap.size W I):=λW=>aa λb=>by
     have:=Gp E (fC i) (fS i) _ _ W ((G.o i af).2.1.below b (Nat.le_refl _)) ((H.o i af).2.1.below b (Nat.le_refl _)) (G.o i af).2.2 (H.o i af).2.2 (en.below b);rw[<-o0,D,J]at this;exact this
    have o:i=0\/i=1\/i=2\/i=3\/i=4\/i=5\/i=6\/i=7:=af;have c1:=(G.o i af).1;have c2:=(H.o i af).1;clear D J f;rcases o with rfl|rfl|rfl|rfl|rfl|rfl|rfl|rfl
    all_goals
     clear A;simp at u
     first|(replace g:=g (.inl rfl))|(replace g:=g (.inr rfl))|clear g
     subst u
     ((repeat (first|(have x:=Jm.hk a;clear a;obtain⟨_,rfl,a⟩:=x)|(have x:=Jm.ha a;clear a;obtain⟨_,_,rfl,a⟩:=x)));(have x:=Jm.hn a;clear a;subst x))
     refine go ?_;refine T.one 1 (TO.cf (vf:=λq=> .tuple #[.pointer (some ⟨Z,_,none⟩),.string q]) (p:=λ_ _ _ _=>True) (λ_ _ _ _ _ _ _ _=>trivial) (λW d=>(k W).mono λr W' ⟨s,C,n⟩=>⟨s,C,trivial,n⟩) λq q0 q1=> ?_);refine TC.rg [] ?_;refine T.lw 4 _ c1 List.not_mem_nil ?_;refine T.lw 9 _ c2 List.not_mem_nil ?_;refine T.one 10 (TO.qk (λW d=>(qP W).out d.below) ?_);refine T.one 3 (TO.cf (vf:=dl) (p:=λx lo A W=>w.heap.size<=x/\(lo<=x/\x<A)/\Whole W x 86 #[.string q,bM (E 12)]) (λx lo A W W' ⟨C,n,h3⟩ b _=>⟨C,n,(b x n).trans h3⟩) (λW d=>(oF q _ _ W).mono λr W' ⟨C,n⟩=>⟨W.heap.size,C,⟨d.base.size,⟨Nat.le_refl _,n▸(Whole.made W _ _).inside⟩,n▸Whole.made W _ _⟩,n▸(Below.refl W.heap.size W).alloc (Nat.le_refl _) _⟩) λfp f0 f1=> ?_);refine TE.TF ?_;exact λW d=>⟨by rw[hn.o];exact⟨fp,q,rfl,(d.en _ (List.mem_of_getElem? (i:=8) rfl)).1,(d.en _ (List.mem_of_getElem? (i:=8) rfl)).2.2⟩,d.below⟩
end Go.Proofs.P
