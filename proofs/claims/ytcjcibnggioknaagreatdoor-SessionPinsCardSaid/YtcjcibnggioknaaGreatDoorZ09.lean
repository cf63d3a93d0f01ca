/- Lemmas on which SessionPins rests. -/
import Derived.Test.YtcjcibnggioknaaGreatDoorZ05
set_option maxRecDepth 100000
set_option maxHeartbeats 40000000
set_option linter.unusedVariables false
open Go.RowKit Go.Spk
open Go.Proofs.Tryz
namespace Go.Spk
def vm(c:Bool)(a b:List Int):List Int:=if c then b else a
theorem FH(c:Bool){a b}{x y}(d:Fe a x)(e:Fe b y):Fe (vm c a b) (if c then y else x):=by cases c<;>assumption
end Go.Spk
namespace Go.Proofs.P
section
variable {d:Tmp}{x y:Operand}{ty:TypeId}{pos:String}{after:Array Edge}{gd:Option (Nat×Bool)}{a:Go.Act}{w:World}{K:Go.Act->World->Prop}{Q:Exit->Go.Act->World->Prop}
theorem Tw(b:jQ w (a.eval x) 10):Oper.wp prog ⟨some d,.load 304 x,ty,pos,after,gd⟩ a w K Q=K (a.put (some d) (jx w (a.eval x) 10)) w:=iS underlying304 rfl al b
theorem Tx(b:jQ w (a.eval x) 10)(c:mZ 10 (a.eval y)):Oper.wp prog ⟨none,.store 304 x y,ty,pos,after,gd⟩ a w K Q=K (a.put none undef) (w.setCells (lY (a.eval x)) (lZ (a.eval x)) (a.eval y).cells.toList):=lj al b c
end
attribute [local go_sem ↓] li lm Tw Tx Go.wp_at_zero Go.wp_at_succ
attribute [local go_sem] cr cD
theorem XE{a b}(c:a.length=5)(d:b.length=5):(prog.info? 304).map (·.size)=some (ai .u64 (a++b)).size:=by rw[ag,am,c,d];kernel_rfl
theorem Bt{o}{ev}{x y}{a b}(c:o.op= .build 304 #[(0,x),(1,y)])(d:ev x= .agg (ai .u64 a))(e:ev y= .agg (ai .u64 b))(f:a.length=5)(g:b.length=5)(W:ay):
 (execOp ev o).run prog W= .ok (.value (.agg (ai .u64 (a++b)))) W:=by
 have h:(Instr.build 304 #[(0,.agg (ai .u64 a)),(1,.agg (ai .u64 b))]).run prog W= .ok (.agg (ai .u64 (a++b))) W:=by
  obtain⟨i,j,k,l,m,rfl⟩:=qa f;obtain⟨n,p,q,r,s,rfl⟩:=qa g;show _=_;kernel_rfl
 unfold execOp;simp only[c];simp[d,e,h]
theorem Rm{w}{x}{m}(h:jQ w x m)(g o:Nat)(vs:gF):jQ (w.setCells g o vs) x m=True:=by
 obtain⟨q,p,rfl,a⟩:=h;exact eq_true ⟨q,p,rfl,World.there_setCells a g o vs⟩
theorem Of{w}{x}{m}(h:jQ w x m):jQ w.drew x m=True:=eq_true h
theorem NF{w}{q p}{g o m}(a:¬q=g)(vs:gF):jx (w.setCells g o vs) (.pointer (some ⟨q,p,none⟩)) m=jx w (.pointer (some ⟨q,p,none⟩)) m:=by
 unfold jx;congr 2;refine nO λj b=> ?_;show((w.setCells g o vs).cell? ⟨q,p+j,none⟩).getD undef=(w.cell? ⟨q,p+j,none⟩).getD undef;rw[World.cell?_setCells_out g vs o w ⟨q,p+j,none⟩ (λe=>absurd e a)]
theorem JI(w:ay)(x:cH)(m:Nat):jx w.drew x m=jx w x m:=rfl
attribute [local go_sem] Rm Of NF JI
end Go.Proofs.P
namespace Go.Spk
def tb(x g h i j:List Int):(List Int×List Int)×(List Int×List Int):=
 let a:=bU (o8 g h)
 let b:=bU (mY g h)
 let f:=mulL a a
 let k:=mulL b b
 let e:=bU (mY f k)
 let c:=mulL (bU (mY i j)) a
 let d:=mulL (bU (o8 i j)) b
 ((mulL f k,mulL e (bU (o8 f (mulL [((121665:Nat):Int),0,0,0,0] e)))),(mulL (bU (o8 c d)) (bU (o8 c d)),mulL x (mulL (bU (mY c d)) (bU (mY c d)))))
def xR(w:World)(a c:Nat)(W:World):Prop:=(∀b T d,Whole w b T d->b≠a->b≠c->Whole W b T d)/\(∀B,B<=a->B<=c->B<=w.heap.size->Below B w W)/\w.heap.size<=W.heap.size
theorem xR.of{w W}{a gb}(h:ci [a,gb] w W):xR w a gb W:=
 ⟨λb T g k d e=>h.whole k (by simp[d,e]),λB i j f=>h.below f (λm c=>by simp at c;rcases c with rfl|rfl<;>assumption),h.size⟩
end Go.Spk
namespace Go.Proofs.P
theorem Gg{x b d f g:aR}{x0 x1 x2 x3 x4:Nat}(y:Fe x x0)(l:Fe b x1)(m:Fe d x2)(o:Fe f x3)(r:Fe g x4)(a j:Nat)(A:a≠j)(w:ay)(h1:Whole w a 304 (ai .u64 (b++d)))(h2:Whole w j 304 (ai .u64 (f++g))):
 Calls prog 214 #[.agg (ai .u64 x),.pointer (some ⟨a,0,none⟩),.pointer (some ⟨j,0,none⟩)] w λe w'=>e= .returned (.tuple #[])/\
  Whole w' a 304 (ai .u64 ((tb x b d f g).1.1++(tb x b d f g).1.2))/\Whole w' j 304 (ai .u64 ((tb x b d f g).2.1++(tb x b d f g).2.2))/\xR w a j w':=by
 have xx:=aa (show mn x from⟨_,y⟩);have R:=aa (show mn b from⟨_,l⟩);have S:=aa (show mn d from⟨_,m⟩);have U:=aa (show mn f from⟨_,o⟩);have V:=aa (show mn g from⟨_,r⟩);have l0:=y.len;have l1:=l.len;have l2:=m.len;have l3:=o.len;have l4:=r.len;obtain⟨p,d1,B,n1⟩:=TD R S;obtain⟨q,d2,C,n2⟩:=VK R S;obtain⟨pp,d3,u,n3⟩:=vJ B B;obtain⟨ll,d4,X,n4⟩:=vJ C C;obtain⟨e,d5,Y,n5⟩:=VK u X;obtain⟨s1,d6,f6,n6⟩:=VK U V;obtain⟨da,d7,Z,n7⟩:=vJ f6 B;obtain⟨s2,d8,f8,n8⟩:=TD U V;obtain⟨cb,d9,f9,n9⟩:=vJ f8 C;obtain⟨u1,D,s,ab⟩:=TD Z f9;obtain⟨u2,E,ad,aj⟩:=vJ s s;obtain⟨u3,F,t,al⟩:=VK Z f9;obtain⟨u4,G,H,ao⟩:=vJ t t;obtain⟨u5,I,av,aB⟩:=vJ xx H;obtain⟨J,K,aC,aE⟩:=vJ u X;obtain⟨c,dc,fc⟩:∃c,Hid (c= [((121665:Nat):Int),0,0,0,0])/\Hid (mn c):=⟨_,aa rfl,aa ⟨_,fD (n:=121665) an⟩⟩;obtain⟨v2,L,M,aF⟩:=vJ fc Y;obtain⟨v3,N,O,aG⟩:=TD u M;obtain⟨P,Q,aK,aP⟩:=vJ Y O;have hR:Hid (tb x b d f g=((J,P),(u2,u5))):=aa (by rw[Q.out,N.out,L.out,K.out,I.out,G.out,F.out,E.out,D.out,d9.out,d8.out,d7.out,d6.out,d5.out,d4.out,d3.out,d2.out,d1.out,dc.out];rfl);rw[hR.o];have la:(b++d).length=10:=by simp[*]
 have lb:(f++g).length=10:=by simp[*]
 have hs:Hp w [a,j] [bl 0 a true (kL 304 [5,5]) [b.map (Value.int .u64),d.map (Value.int .u64)],bl 1 j true (kL 304 [5,5]) [f.map (Value.int .u64),g.map (Value.int .u64)]] w:=
  Hp.cons (Hp.cons (Hp.nil _ _) ⟨by show[_,_]=_;simp[l3,l4],by show w.heap[j]?=_;rw[show w.heap[j]?=_ from h2];simp[ai,bl]⟩ (λ_ e=>e▸h2.inside) (λ_ _ e=>by rw[show _=j from e];simp) (λ_ h=>by cases h)) ⟨by show[_,_]=_;simp[l1,l2],by show w.heap[a]?=_;rw[show w.heap[a]?=_ from h1];simp[ai,bl]⟩ (λ_ e=>e▸h1.inside) (λ_ _ e=>by rw[show _=a from e];simp) (λx y k hk hb=>by obtain rfl:=ar.1 y;exact A ((show k=a from hk).symm.trans hb))
 clear y l m o r h1 h2 A;refine TC.enter func214 ntmps214 _ _ hs ?_;refine T.one 0 (TO.J (z:=5) λbX=> ?_);refine TC.rg [118000,119000] ?_;refine T.qc 8 (v:= .agg (ai .u64 p)) (λ_ _ W _=>Cd R S d1 W) ?_;refine T.qc 17 (v:= .agg (ai .u64 q)) (λ_ _ W _=>FG R S d2 W) ?_;refine T.one 18 (TO.J (z:=5) λb6=> ?_);refine T.one 19 (TO.J (z:=5) λb7=> ?_);refine TC.rg [104000,105000] ?_;refine T.qc 1 (v:= .agg (ai .u64 pp)) (λ_ _ W _=>IN B d3 W) ?_;refine T.qc 3 (v:= .agg (ai .u64 ll)) (λ_ _ W _=>IN C d4 W) ?_;refine T.one 4 (TO.J (z:=5) λb8=> ?_);refine T.one 5 (TO.J (z:=5) λb9=> ?_);refine T.one 2 (TO.qk (v:= .agg (ai .u64 e)) (λW _=>FG u X d5 W) ?_);refine T.one 3 (TO.J (z:=5) λaS=> ?_);refine TC.rg [111000] ?_;refine T.qc 8 (v:= .agg (ai .u64 s1)) (λ_ _ W _=>FG U V d6 W) ?_;refine T.qc 10 (v:= .agg (ai .u64 da)) (λ_ _ W _=>qd f6 B d7 W) ?_;refine T.one 11 (TO.J (z:=5) λaU=> ?_);refine TC.drop 3 ?_;refine TC.rg [111000] ?_;refine T.qc 8 (v:= .agg (ai .u64 s2)) (λ_ _ W _=>Cd U V d8 W) ?_;refine T.qc 10 (v:= .agg (ai .u64 cb)) (λ_ _ W _=>qd f8 C d9 W) ?_;refine T.one 11 (TO.J (z:=5) λaV=> ?_);refine TC.drop 3 ?_;refine TC.rg [1000,1001] ?_;refine T.qc 3 (v:= .agg (ai .u64 u1)) (λ_ _ W _=>Cd Z f9 D W) ?_;refine T.qc 4 (v:= .agg (ai .u64 u2)) (λ_ _ W _=>IN s E W) ?_;refine T.qc 8 (v:= .agg (ai .u64 u3)) (λ_ _ W _=>FG Z f9 F W) ?_;refine T.qc 9 (v:= .agg (ai .u64 u4)) (λ_ _ W _=>IN t G W) ?_;refine T.qc 10 (v:= .agg (ai .u64 u5)) (λ_ _ W _=>qd xx H I W) ?_;refine T.bd 11 [[bO,bO,bO,bO,bO],[bO,bO,bO,bO,bO]] (qs:= [u2.map (Value.int .u64),u5.map (Value.int .u64)]) (v:= .agg (ai .u64 (u2++u5))) ?_ (hv:=by simp[ai]);refine T.one 13 (TO.XP 1 2 (qs:= [u2.map (Value.int .u64),u5.map (Value.int .u64)]) ?_);refine TC.rg [0,1] ?_;refine T.qc 3 (v:= .agg (ai .u64 J)) (λ_ _ W _=>qd u X K W) ?_;refine T.qc 6 (v:= .agg (ai .u64 c)) (λ_ _ W _=>by rw[dc.out];exact ew (n:=121665) an W) ?_;refine T.qc 8 (v:= .agg (ai .u64 v2)) (λ_ _ W _=>qd fc Y L W) ?_;refine T.qc 9 (v:= .agg (ai .u64 v3)) (λ_ _ W _=>Cd u M N W) ?_;refine T.qc 10 (v:= .agg (ai .u64 P)) (λ_ _ W _=>qd Y O Q W) ?_;refine T.bd 11 [[bO,bO,bO,bO,bO],[bO,bO,bO,bO,bO]] (qs:= [J.map (Value.int .u64),P.map (Value.int .u64)]) (v:= .agg (ai .u64 (J++P))) ?_ (hv:=by simp[ai]);refine T.one 13 (TO.XP 0 2 (qs:= [J.map (Value.int .u64),P.map (Value.int .u64)]) ?_);refine TE.rt λW hW=>⟨rfl,?_,?_,xR.of hW.base⟩
 .exact Vg (hW.lay (ah (i:=0) rfl))
 .exact Vg (hW.lay (ah (i:=1) rfl))
theorem yM(a:Bool){j l m n:aR}{F G H I:Nat}(c:Fe j F)(d:Fe l G)(f:Fe m H)(g:Fe n I)(o p:Nat)(q:o≠p)(w:ay)(h1:Whole w o 304 (ai .u64 (j++l)))(t:Whole w p 304 (ai .u64 (m++n))):
 Calls prog 213 #[.bool a,.pointer (some ⟨o,0,none⟩),.pointer (some ⟨p,0,none⟩)] w λe r=>e= .returned (.tuple #[])/\
  Whole r o 304 (ai .u64 (vm a j m++vm a l n))/\Whole r p 304 (ai .u64 (vm a m j++vm a n l))/\(∀b T y,Whole w b T y->b≠o->b≠p->Whole r b T y)/\ ∀B,B<=o->B<=p->B<=w.heap.size->Below B w r:=by
 have J:=c.len;have K:=d.len;have L:=f.len;have M:=g.len;have A:=aa (λW=>iX a f c W);have C:=aa (λW=>iX a g d W);have D:=aa (λW=>iX a c f W);have E:=aa (λW=>iX a d g W);have R:(vm a j m).length=5:=(FH a c f).len;have S:(vm a l n).length=5:=(FH a d g).len;have U:(vm a m j).length=5:=(FH a f c).len;have V:(vm a n l).length=5:=(FH a g d).len;change Hid (∀W,Calls _ _ _ _ λe u=>e= .returned (.agg (ai .u64 (vm a j m)))/\_)at A;change Hid (∀W,Calls _ _ _ _ λe u=>e= .returned (.agg (ai .u64 (vm a l n)))/\_)at C;change Hid (∀W,Calls _ _ _ _ λe u=>e= .returned (.agg (ai .u64 (vm a m j)))/\_)at D;change Hid (∀W,Calls _ _ _ _ λe u=>e= .returned (.agg (ai .u64 (vm a n l)))/\_)at E;have X:(j++l).length=10:=by simp[*]
 have Y:(m++n).length=10:=by simp[*]
 have N:Hp w [o,p] [bl 0 o true (kL 304 [5,5]) [j.map (Value.int .u64),l.map (Value.int .u64)],bl 1 p true (kL 304 [5,5]) [m.map (Value.int .u64),n.map (Value.int .u64)]] w:=
  Hp.cons (Hp.cons (Hp.nil _ _) ⟨by show[_,_]=_;simp[L,M],by show w.heap[p]?=_;rw[show w.heap[p]?=_ from t];simp[ai,bl]⟩ (λ_ e=>e▸t.inside) (λ_ _ e=>by rw[show _=p from e];simp) (λ_ h=>by cases h)) ⟨by show[_,_]=_;simp[J,K],by show w.heap[o]?=_;rw[show w.heap[o]?=_ from h1];simp[ai,bl]⟩ (λ_ e=>e▸h1.inside) (λ_ _ e=>by rw[show _=o from e];simp) (λx O k P Q=>by obtain rfl:=ar.1 O;exact q ((show k=o from P).symm.trans Q))
 generalize vm a j m=c1 at*;generalize vm a l n=c2 at*;generalize vm a m j=c3 at*;generalize vm a n l=c4 at*;have Z:(c1++c2).length=10:=by simp[*]
 have ld:(c3++c4).length=10:=by simp[*]
 clear c d f g h1 t q;refine TC.enter func213 ntmps213 _ _ N ?_;refine TC.rg [121000] ?_;refine T.qc 9 (v:= .agg (ai .u64 c1)) (λ_ _ W _=>A.o W) ?_;refine T.qc 19 (v:= .agg (ai .u64 c2)) (λ_ _ W _=>C.o W) ?_;refine T.bd 20 [[bO,bO,bO,bO,bO],[bO,bO,bO,bO,bO]] (qs:= [c1.map (Value.int .u64),c2.map (Value.int .u64)]) (v:= .agg (ai .u64 (c1++c2))) ?_ (hv:=by simp[ai]);refine T.one 21 (TO.J (z:=10) λb1=> ?_);refine TC.rg [121000] ?_;refine T.qc 9 (v:= .agg (ai .u64 c3)) (λ_ _ W _=>D.o W) ?_;refine T.qc 19 (v:= .agg (ai .u64 c4)) (λ_ _ W _=>E.o W) ?_;refine T.bd 20 [[bO,bO,bO,bO,bO],[bO,bO,bO,bO,bO]] (qs:= [c3.map (Value.int .u64),c4.map (Value.int .u64)]) (v:= .agg (ai .u64 (c3++c4))) ?_ (hv:=by simp[ai]);refine T.one 21 (TO.J (z:=10) λb2=> ?_);refine TC.rg [0,1,1000,1001] ?_;refine T.one 5 (TO.XP 0 2 (qs:= [c1.map (Value.int .u64),c2.map (Value.int .u64)]) ?_);refine T.one 7 (TO.XP 1 2 (qs:= [c3.map (Value.int .u64),c4.map (Value.int .u64)]) ?_);refine TE.rt λW s=>⟨rfl,Vg (s.lay (ah (i:=0) rfl)),Vg (s.lay (ah (i:=1) rfl)),(xR.of s.base).1,(xR.of s.base).2.1⟩
end Go.Proofs.P
