/- Lemmas on which SessionPins rests. -/
import Derived.Lib.FrozenHead
import Derived.Test.YtcjcibnggioknaaGreatDoorZ06
set_option maxRecDepth 100000
set_option maxHeartbeats 40000000
set_option linter.unusedVariables false
open Go.RowKit Go.Spk
open Go.Proofs.Tryz
namespace Go.Proofs.P
theorem DR(a b ws c:aR)(h:jr ws):sY a b (mi a b ws c) c=ws/\sX a b (mi a b ws c) c=0:=by
 have j:(mi a b ws c).length=ws.length+16:=by unfold mi;rw[am,hI,pG]
 have d:¬(mi a b ws c).length<16:=af;have e:(mi a b ws c).length -16=(qt a 1 b ws).length:=by rw[hI];omega
 have f:(mi a b ws c).take ((mi a b ws c).length -16)=qt a 1 b ws:=by
  rw[e];unfold mi;rw[List.take_left]
 have i:(mi a b ws c).drop ((mi a b ws c).length -16)=rK a b (qt a 1 b ws) c:=by
  rw[e];unfold mi;rw[List.drop_left]
 have g:Dt a b (mi a b ws c) c=true:=by
  unfold Dt;rw[f,i];exact beq_self_eq_true _
 constructor
 .unfold sY;rw[aq d,g,aJ rfl,f,O9 _ _ _ _ h]
 .unfold sX;rw[aq d,g,aJ rfl]
theorem OQ(a c ws d:aR):∀b∈mi a c ws d,0<=b/\b<=255:=by
 intro b e;rcases bT.1 e with h|h
 .exact BP _ _ _ _ b h
 .exact DL _ _ _ _ b h
theorem Fy(a b ws c:aR):(mi a b ws c).length=ws.length+16:=by unfold mi;rw[am,hI,pG]
end Go.Proofs.P
namespace Go.Spk
structure j5(B b:Nat)(w w':World):Prop where
 os:w'.os=w.os
 tape:w'.tape=w.tape
 output:w'.output=w.output
 size:w.heap.size<=w'.heap.size
 block:∀i,i<B->i≠b->w'.heap[i]?=w.heap[i]?
section
variable {B b:Nat}{w w' w'':World}
theorem j5.refl(B b:Nat)(w:ay):j5 B b w w:=⟨rfl,rfl,rfl,ak _,λ_ _ _=>rfl⟩
theorem j5.trans(h:j5 B b w w')(k:j5 B b w' w''):j5 B b w w'':=
 ⟨k.os.trans h.os,k.tape.trans h.tape,k.output.trans h.output,ap h.size k.size,λi a c=>(k.block i a c).trans (h.block i a c)⟩
theorem j5.grown{r}(h:j5 B b w w')(k:w'.grownBy w'' r)(c:B<=w'.heap.size)(d:∀g,r=some g->B<=g\/g=b):j5 B b w w'':=
 ⟨k.os.trans h.os,k.tape.trans h.tape,k.output.trans h.output,ap h.size k.size,λi a f=>(k.block i (aL a c) (λe=>by rcases d i e.symm with j|j<;>omega)).trans (h.block i a f)⟩
theorem j5.alloc(h:j5 B b w w')(a:B<=w'.heap.size)(o:Obj):j5 B b w (w'.alloc o):=h.grown (eK w' o none) a (λ_ e=>by cases e)
theorem j5.drew(h:j5 B b w w'):j5 B b w w'.drew:=⟨h.os,h.tape,h.output,h.size,h.block⟩
theorem j5.set(h:j5 B b w w')(i:Nat)(u:cH):j5 B b w (w'.setCell ⟨b,i,none⟩ u):=
 ⟨h.os,h.tape,h.output,by simpa[World.setCell]using h.size,λj c a=>(Below.heap_setCell w' ⟨b,i,none⟩ u j (λe=>a e)).trans (h.block j c a)⟩
theorem j5.cL(h:Below B w w'):j5 B b w w':=⟨h.os,h.tape,h.output,h.size,λi a _=>h.block i a⟩
theorem j5.mono{C}(h:j5 B b w w')(c:C<=B):j5 C b w w':=⟨h.os,h.tape,h.output,h.size,λi d a=>h.block i af a⟩
theorem j5.below{C}(h:j5 B b w w')(a:C<=B)(c:C<=b):Below C w w':=
 (aw C w).trans ⟨h.os,h.tape,h.output,h.size,λi d=>h.block i af af⟩
end
def BX(T e:TypeId)(B b:Nat)(p:Value)(bs:List Value)(w:World):Prop:=
 ∃v,w.heap[b]?=some (.cells #[p,v] T (0,0))/\w.ownsRow B e 1 v bs.length bs/\v.ownBlock≠some b
def TG(T e:TypeId)(B b:Nat)(p:Value)(bs:List Value)(w:World):Prop:=
 ∃v,w.heap[b]?=some (.cells #[p,v] T (0,0))/\w.ownsRowF B e 1 v bs.length bs/\v.ownBlock≠some b
def gH(T e:TypeId)(B b:Nat)(bs:List Value)(w:World):Prop:=BX T e B b (.pointer none) bs w\/BX T e B b (.pointer (some ⟨b,0,none⟩)) bs w
def iJ(T e:TypeId)(B b:Nat)(bs:List Value)(w:World):Prop:=TG T e B b (.pointer none) bs w\/TG T e B b (.pointer (some ⟨b,0,none⟩)) bs w
section
variable {T e:TypeId}{B b:Nat}{p:Value}{bs:List Value}{w w':World}
theorem iJ.of(h:gH T e B b bs w):iJ T e B b bs w:=by
 rcases h with⟨v,a,c,d⟩|⟨v,a,c,d⟩
 .exact .inl ⟨v,a,World.ownsRowF_of c,d⟩
 .exact .inr ⟨v,a,World.ownsRowF_of c,d⟩
theorem BX.cell0(h:BX T e B b p bs w):w.cell? ⟨b,0,none⟩=some p:=by
 obtain⟨v,a,_⟩:=h;simp[World.cell?,a]
theorem BX.shape(h:BX T e B b p bs w):w.shape? b=some (T,2):=by
 obtain⟨v,a,_⟩:=h;simp[World.shape?,a]
theorem BX.frozen0(h:BX T e B b p bs w):w.frozen? ⟨b,0,none⟩=false:=by
 obtain⟨v,a,_⟩:=h;simp[World.frozen?,a]
theorem BX.used(h:BX T e B b p bs w)(q:cH):BX T e B b q bs (w.setCell ⟨b,0,none⟩ q):=by
 obtain⟨v,d,a,c⟩:=h;refine⟨v,?_,?_,c⟩
 .simp[World.setCell,Array.getElem?_modify,d]
 .exact a.kept (row:=some b) ⟨rfl,rfl,rfl,by simp[World.setCell],λk _ f=>Below.heap_setCell _ _ _ _ (λe=>f (by simp[e]))⟩ (Or.inr c)
theorem BX.put{v v'}{bs'}(f:w.heap[b]?=some (.cells #[p,v] T (0,0)))(a:w.ownsRow B e 1 v' bs'.length bs')(d:T≠e):BX T e B b p bs' (w.setCell ⟨b,1,none⟩ v'):=by
 have c:=Lib.ownBlock_ne a f d;refine⟨v',?_,?_,c⟩
 .simp[World.setCell,Array.getElem?_modify,f]
 .exact a.kept (row:=some b) ⟨rfl,rfl,rfl,by simp[World.setCell],λk _ g=>Below.heap_setCell _ _ _ _ (λe=>g (by simp[e]))⟩ (Or.inr c)
theorem BX.fresh(B:Nat)(a:w.heap[b]?=some (.cells #[.pointer none,.slice none 0 0] T (0,0))):gH T e B b [] w:=
 .inl ⟨.slice none 0 0,a,World.ownsRow_nil _ _ _ _,by simp[Value.ownBlock]⟩
theorem TG.froze{g cap}(h:TG T e B b p bs w)(q:w.cell? ⟨b,1,none⟩=some (.slice (some ⟨g,0,none⟩) bs.length cap)):TG T e B b p bs (w.freeze ⟨g,0,none⟩ bs.length):=by
 obtain⟨v,r,a,l⟩:=h
 have i:v= .slice (some ⟨g,0,none⟩) bs.length cap:=by
  rw[Lib.cell_of_heap r]at q;simpa using q
 subst i;have s:g≠b:=λe=>l (by simp[Value.ownBlock,e])
 have D:Lib.BuilderAtF T e 0 b p bs w:=⟨ce _,_,r,by
  refine⟨a.1,?_⟩;rcases a.2 with j|⟨o,t,k,u,i,H,c⟩
  .exact .inl j
  .exact .inr ⟨o,t,k,u,i,ce _,c⟩,l⟩
 have hF:=D.froze q;obtain⟨_,A,f,d,m⟩:=hF;refine⟨A,f,⟨d.1,?_⟩,m⟩
 have x:A= .slice (some ⟨g,0,none⟩) bs.length cap:=by
  have j:(w.freeze ⟨g,0,none⟩ bs.length).heap[b]?=w.heap[b]?:=by
   unfold World.freeze
   split
   .rfl
   .simp only[Array.getElem?_modify];rw[aq s]
  rw[j,r]at f;simp only[Option.some.injEq,Obj.cells.injEq]at f;have:=f.1;simpa using this.symm
 rcases d.2 with j|⟨o,t,k,u,i,_,c⟩
 .exact .inl j
 .have y:B<=o:=by
   rcases a.2 with⟨j,_⟩|⟨I,c2,C,E,z,F,_⟩
   .cases j
   .rw[x]at i;injection i with G _ _;injection z with n _ _;rw[G]at n;injection n with n;injection n with n _ _;omega
  exact .inr ⟨o,t,k,u,i,y,c⟩
end
def xJ(e:TypeId)(b:Nat)(w w':World):Prop:= ∀i,i<w.heap.size->i≠b->(∀a c,w.heap[i]?≠some (.cells a e c))->w'.heap[i]?=w.heap[i]?
theorem xJ.refl(e:fg)(b:Nat)(w:ay):xJ e b w w:=λ_ _ _ _=>rfl
theorem xJ.trans{e}{b}{w w' w''}(h:xJ e b w w')(k:xJ e b w' w'')(g:w.heap.size<=w'.heap.size):xJ e b w w'':=λi f c a=>by
 have d:=h i f c a;rw[k i af c (by rw[d];exact a),d]
theorem xJ.cL{e}{b B}{w w'}(h:Below B w w')(a:w.heap.size<=B):xJ e b w w':=λi c _ _=>h.block i af
theorem xJ.bZ{e}{b}{w w'}(h:w.grownBy w' (some b)):xJ e b w w':=λi a c _=>h.block i a (λq=>c (iU q))
theorem xJ.alloc{e}{b}{w w'}(h:xJ e b w w')(a:w.heap.size<=w'.heap.size)(o:Obj):xJ e b w (w'.alloc o):=h.trans (λi c _ _=>Lib.alloc_old w' o i c) a
theorem xJ.set{e}{b}{w w'}(h:xJ e b w w')(a:w.heap.size<=w'.heap.size)(i:Nat)(u:cH):xJ e b w (w'.setCell ⟨b,i,none⟩ u):=h.trans (xJ.bZ (aY ⟨b,i,none⟩ rfl u)) a
theorem xJ.own{e}{b B}{w w' w''}{v}{n}{xs}(h:xJ e b w w')(f:w.heap.size<=w'.heap.size)(a:w'.ownsRow B e 1 v n xs)(j:w'.grownBy w'' v.ownBlock):xJ e b w w'':=h.trans (λi k p c=>j.block i k (λq=>by
 rcases a.2 with⟨d,_⟩|⟨g,l,m,d,_,o,_⟩
 .rw[d]at q;cases q
 .rw[d]at q;simp[Value.ownBlock]at q;subst q;exact c _ _ o)) f
theorem Whole.Pb{e}{b g}{t}{cs}{w w'}(h:Whole w g t cs)(k:xJ e b w w')(d:g≠b)(i:t≠e):Whole w' g t cs:=by
 have a:w.heap[g]?=some (.cells cs t (0,0)):=h;exact(k g h.inside d (λc f q=>by rw[a]at q;injection q with q;injection q with l j m;exact i j)).trans a
end Go.Spk
namespace Go.Proofs.P
theorem VR:liesAt prog prog.depth 156 (2/prog.cellsOf 156) 0 154 1=true:=al
theorem Gm(b:Nat)(w:ay)(c:w.cell? ⟨b,0,none⟩=some (.pointer (some ⟨b,0,none⟩))):
 Calls prog 123 #[.pointer (some ⟨b,0,none⟩)] w λe w'=>e= .returned (.tuple #[])/\w'=w:=by
 obtain⟨j,a,_⟩:=bN.1 zI
 go_enter func123,ntmps123
 go_wp2
 rw[Lib.run_neq_ptr_same (P:=prog) (w:=w) _ underlying152 a]
 go_wp2
 go_end0
 exact⟨rfl,rfl⟩
theorem EG(b:Nat)(w:ay)(g:w.cell? ⟨b,0,none⟩=some (.pointer none))(a:w.shape? b=some (156,2))(f:w.frozen? ⟨b,0,none⟩=false):
 Calls prog 123 #[.pointer (some ⟨b,0,none⟩)] w λe w'=>e= .returned (.tuple #[])/\w'=w.setCell ⟨b,0,none⟩ (.pointer (some ⟨b,0,none⟩)):=by
 obtain⟨j,d,c⟩:=bN.1 zI
 go_enter func123,ntmps123
 go_wp2
 rw[Lib.run_to_unsafe (P:=prog) (w:=w) ⟨b,0,none⟩ underlying152 underlying121 d (by rw[c];decide) a (Nat.zero_lt_succ 1)];simp only[Result.andThen];rw[tm]
 go_wp2
 rw[bJ func165 al al al (e:=Extern.AbiNoEscape.same) al];rw[Lib.run_noEscape];simp only[Result.andThen];rw[tm]
 go_wp2
 rw[Lib.run_from_unsafe (P:=prog) (w:=w) ⟨b,0,none⟩ underlying121 underlying152 d a VR];simp only[Result.andThen];rw[tm]
 go_wp2
 go_end0
 exact⟨rfl,rfl⟩
theorem rC(B b:Nat)(bs:gF)(w:ay)(h:gH 156 5 B b bs w):
 Calls prog 123 #[.pointer (some ⟨b,0,none⟩)] w λe w'=>e= .returned (.tuple #[])/\(BX 156 5 B b (.pointer (some ⟨b,0,none⟩)) bs w'/\w.grownBy w' (some b)):=by
 rcases h with h|h
 .refine(EG b w h.cell0 h.shape h.frozen0).mono ?_;rintro e w' ⟨rfl,rfl⟩;exact⟨rfl,h.used _,aY _ rfl _⟩
 .refine(Gm b w h.cell0).mono ?_;rintro e w' ⟨rfl,rfl⟩;exact⟨rfl,h,ez _ _⟩
theorem rW(B b:Nat)(bs:gF)(c:Int)(w:ay)(h:gH 156 5 B b bs w)(C:bs.length+1<=140737488355328)(r:B<=w.heap.size):
 Calls prog 92 #[.pointer (some ⟨b,0,none⟩),.int .u8 c] w λe w'=>e= .returned .nilIface/\(BX 156 5 B b (.pointer (some ⟨b,0,none⟩)) (bs++ [.int .u8 c]) w'/\j5 B b w w'/\xJ 5 b w w'):=by
 obtain⟨E,F,s,x,y⟩:=info_parts infoByte
 go_enter func92,ntmps92
 go_wp2_with (go_at_call 123;refine(rC B b bs _ h).mono ?_)
 rintro e w1 ⟨rfl,G,o⟩;have d:j5 B b w w1:=(j5.refl B b w).grown o r (λk p=>by injection p with p;omega);obtain⟨v,l,f,z⟩:=G;have c0:w1.cell? ⟨b,0,none⟩=some (.pointer (some ⟨b,0,none⟩)):=by rw[Lib.cell_of_heap l];rfl
 have c1:w1.cell? ⟨b,1,none⟩=some v:=by rw[Lib.cell_of_heap l];rfl
 go_wp2_with (at_builtin;refine wpList_append_own _ rfl _ _ 99 rfl B 5 E (.int .u8 0) 1 1 underlying99 F s x y rfl an _ _ _ rfl (f.alloc _) ⟨w1.heap.size,0,none⟩ 1 1 [.int .u8 c] rfl rfl ?c1 ?c2 ?c3 ?c4 ?c5 ?_)
 case c1=>
  intro j u q
  match j,q with
  |0,q=>simp at q;subst q;simp[Addr.add]
 case c2=>intro u D;simp at D;subst D;rfl
 case c3=>unfold maxLen;omega
 case c4=>omega
 case c5=>have:=d.size;simp;omega
 intro H w2 i a _;have A:b<w1.heap.size:=Whole.inside (t:=156) (cs:= #[.pointer (some ⟨b,0,none⟩),v]) l
 have m:w2.heap[b]?=some (.cells #[.pointer (some ⟨b,0,none⟩),v] 156 (0,0)):=by
  rw[a.block b (by simp;omega) (λe=>z e.symm),Lib.alloc_old w1 _ b A];exact l
 have K:w2.cell? ⟨b,0,none⟩=some (.pointer (some ⟨b,0,none⟩)):=by rw[Lib.cell_of_heap m];rfl
 have L:w2.cell? ⟨b,1,none⟩=some v:=by rw[Lib.cell_of_heap m];rfl
 have M:w2.frozen? ⟨b,1,none⟩=false:=Lib.frozen_of_heap m 1
 obtain⟨g,n,rfl⟩:∃g n,H= .slice (some ⟨g,0,none⟩) (bs.length+1) n:=by
  rcases i.2 with⟨_,N⟩|⟨g,n,I,J,_⟩
  .omega
  .exact⟨g,n,J⟩
 go_wp2
 go_ret
 refine⟨rfl,?_,?_,?_⟩
 .exact BX.put (T:=156) (e:=5) m (bs':=bs++ [.int .u8 c]) (ek i) an
 .exact((d.alloc (dp d.size) _).grown a (by have:=d.size;simp;omega) (λk p=> .inl (f.lt k p).1)).set 1 _
 .exact(((xJ.bZ (e:=5) o).alloc d.size _).own (by have:=d.size;simp;omega) (f.alloc _) a).set (ap d.size (ap bj a.size)) 1 _
theorem vU(B b:Nat)(bs:gF)(s:bB)(w:ay)(h:gH 156 5 B b bs w)(z:bs.length+s.size<=140737488355328)(o:B<=w.heap.size):
 Calls prog 97 #[.pointer (some ⟨b,0,none⟩),.string s] w λe w'=>e= .returned (.tuple #[.int .i64 s.size,.nilIface])/\(BX 156 5 B b (.pointer (some ⟨b,0,none⟩)) (bs++Lib.strCells s) w'/\j5 B b w w'/\xJ 5 b w w'):=by
 obtain⟨D,E,p,q,r⟩:=info_parts infoByte
 go_enter func97,ntmps97
 go_wp2_with (go_at_call 123;refine(rC B b bs _ h).mono ?_)
 rintro e w1 ⟨rfl,F,m⟩;have c:j5 B b w w1:=(j5.refl B b w).grown m o (λk n=>by injection n with n;omega);obtain⟨v,i,d,u⟩:=F;have c0:w1.cell? ⟨b,0,none⟩=some (.pointer (some ⟨b,0,none⟩)):=by rw[Lib.cell_of_heap i];rfl
 have c1:w1.cell? ⟨b,1,none⟩=some v:=by rw[Lib.cell_of_heap i];rfl
 go_wp2_with (at_builtin;refine Lib.wpList_append_own_string _ rfl _ _ 99 9 rfl B 5 D underlying99 underlying9 E p q r _ _ _ rfl d s rfl ?c3 ?c4 ?c5 ?_)
 case c3=>unfold maxLen;omega
 case c4=>omega
 case c5=>have:=c.size;omega
 intro G w2 f a _;have x:b<w1.heap.size:=Whole.inside (t:=156) (cs:= #[.pointer (some ⟨b,0,none⟩),v]) i
 have j:w2.heap[b]?=some (.cells #[.pointer (some ⟨b,0,none⟩),v] 156 (0,0)):=by
  rw[a.block b x (λe=>u e.symm)];exact i
 have I:w2.cell? ⟨b,0,none⟩=some (.pointer (some ⟨b,0,none⟩)):=by rw[Lib.cell_of_heap j];rfl
 have J:w2.cell? ⟨b,1,none⟩=some v:=by rw[Lib.cell_of_heap j];rfl
 have K:w2.frozen? ⟨b,1,none⟩=false:=Lib.frozen_of_heap j 1
 obtain⟨A,C,l,rfl⟩:∃A C l,G= .slice A C l:=by
  rcases f.2 with⟨y,_⟩|⟨g,l,H,y,_⟩
  .exact⟨_,_,_,y⟩
  .exact⟨_,_,_,y⟩
 go_wp2
 go_ret2
 refine⟨rfl,?_,?_,?_⟩
 .exact BX.put (T:=156) (e:=5) j (bs':=bs++Lib.strCells s) (by simpa[Lib.strCells_length]using f) an
 .exact(c.grown a (dp c.size) (λk n=> .inl (d.lt k n).1)).set 1 _
 .exact((xJ.bZ (e:=5) m).own c.size d a).set (ap c.size a.size) 1 _
def nK(B b:Nat)(w w':World):Prop:=j5 B b w w'/\xJ 5 b w w'
theorem nK.refl(B b:Nat)(w:ay):nK B b w w:=⟨j5.refl _ _ _,xJ.refl _ _ _⟩
theorem nK.trans{B b}{w w' w''}(h:nK B b w w')(k:nK B b w' w''):nK B b w w'':=⟨h.1.trans k.1,h.2.trans k.2 h.1.size⟩
theorem nK.cL{B b}{w w'}(h:Below w.heap.size w w')(a:B<=w.heap.size):nK B b w w':=⟨j5.cL (h.mono a),xJ.cL h (ak _)⟩
theorem CO(B b:Nat)(l:List UInt8)(w:ay)(h:iJ 156 5 B b (Lib.byteCells l) w)(u:l≠ []):
 Calls prog 93 #[.pointer (some ⟨b,0,none⟩)] w λe w'=>e= .returned (.string ⟨l.toArray⟩)/\(iJ 156 5 B b (Lib.byteCells l) w'/\j5 B b w w'):=by
 obtain⟨p,y,k⟩:∃p,(p= .pointer none\/p= .pointer (some ⟨b,0,none⟩))/\TG 156 5 B b p (Lib.byteCells l) w:=by
  rcases h with h|h
  .exact⟨_,.inl rfl,h⟩
  .exact⟨_,.inr rfl,h⟩
 obtain⟨v,i,c,m⟩:=k;have n:l.length≠0:=by simpa using u
 rw[Lib.byteCells_length]at c
 obtain⟨g,cap,a,f,rfl,o,z,A,C,q,D,s⟩:∃g cap a f,v= .slice (some ⟨g,0,none⟩) l.length cap/\B<=g/\w.heap[g]?=some (.cells a 5 f)/\f.2<=l.length*1/\l.length<=cap/\cap<=maxLen/\a.size=cap*1/\a.toList.take (l.length*1)=Lib.byteCells l:=by
  rcases c.2 with⟨_,E⟩|⟨g,cap,a,f,F,r⟩
  .exact absurd E n
  .exact⟨g,cap,a,f,F,r⟩
 have c1:w.drew.cell? ⟨b,1,none⟩=some (.slice (some ⟨g,0,none⟩) l.length cap):=by
  have:w.drew.heap[b]?=some (.cells #[p,.slice (some ⟨g,0,none⟩) l.length cap] 156 (0,0)):=i;rw[Lib.cell_of_heap this];rfl
 have G:(Builtin.unsafeSliceData_ #[99] 229 #[.slice (some ⟨g,0,none⟩) l.length cap]).run prog w.drew= .ok (.pointer (some ⟨g,0,none⟩)) w.drew:=
  Lib.run_unsafeSliceData_row _ _ _ _ _ _ af
 have H:(Builtin.unsafeString_ #[229,3] 9 #[.pointer (some ⟨g,0,none⟩),.int .i64 l.length]).run prog w.drew= .ok (.string ⟨l.toArray⟩) (w.drew.freeze ⟨g,0,none⟩ l.length):=by
  refine Lib.run_unsafeString_row w.drew 229 3 9 5 underlying229 al g a.size (by have t:w.drew.heap[g]?=some (.cells a 5 f):=z;simp[World.shape?,t]) l u af (by unfold maxLen at q;omega) ?_;intro j x I;have:=c.cells (g:=g) rfl j (.int .u8 x.toNat) (by simp[Lib.byteCells,I]);exact this
 have d:iJ 156 5 B b (Lib.byteCells l) (w.drew.freeze ⟨g,0,none⟩ l.length):=by
  have J:TG 156 5 B b p (Lib.byteCells l) w.drew:=⟨_,i,by rw[Lib.byteCells_length];exact c,m⟩;have hF:=J.froze (g:=g) (cap:=cap) (by rw[Lib.byteCells_length];exact c1);rw[Lib.byteCells_length]at hF;rcases y with rfl|rfl
  .exact .inl hF
  .exact .inr hF
 go_enter func93,ntmps93
 go_wp2
 go_region
 all_goals(go_wp2;go_ret;exact⟨rfl,d,j5.cL (Lib.below_freeze (Below.drew (aw B w)) (p:=⟨g,0,none⟩) o _)⟩)
theorem fK(B b:Nat)(xs:aR)(c:∀v∈xs,0<=v/\v<=255)(w:ay)(h:iJ 156 5 B b (xs.map (Value.int .u8)) w)(d:xs≠ []):
 Calls prog 76 #[.pointer (some ⟨b,0,none⟩)] w λe w'=>e= .returned (.string (strOfNums xs))/\(iJ 156 5 B b (xs.map (Value.int .u8)) w'/\j5 B b w w'):=by
 rw[pD c]at h⊢;have f:=aa h;clear h
 go_enter func76,ntmps76
 go_wp2_with (go_at_call 93;refine(CO B b _ _ f.o (ek d)).mono ?_)
 rintro e w1 ⟨rfl,g,a⟩
 go_wp2
 go_ret
 exact⟨rfl,g,a⟩
theorem Ig(B b:Nat)(bs:gF)(c:Int)(w:ay)(h:gH 156 5 B b bs w)(a:bs.length+1<=140737488355328)(d:B<=w.heap.size):
 Calls prog 66 #[.pointer (some ⟨b,0,none⟩),.int .u8 c] w λe w'=>e= .returned (.pointer (some ⟨b,0,none⟩))/\(gH 156 5 B b (bs++ [.int .u8 c]) w'/\nK B b w w'):=by
 go_enter func66,ntmps66
 go_wp2_with (go_at_call 92;refine(rW B b bs c _ h a d).mono ?_)
 rintro e w1 ⟨rfl,g,f⟩
 go_wp2
 go_ret
 exact⟨rfl,.inr g,f⟩
theorem CC(B b:Nat)(bs:gF)(c:Int)(w:ay)(h:gH 156 5 B b bs w)(a:bs.length+1<=140737488355328)(d:B<=w.heap.size):
 Calls prog 66 #[.pointer (some ⟨b,0,none⟩),.int .u8 c] w λe w'=>e= .returned (.pointer (some ⟨b,0,none⟩))/\(gH 156 5 B b (bs++ [.int .u8 c]) w'/\j5 B b w w'):=
 (Ig B b bs c w h a d).mono λ_ _ h=>⟨h.1,h.2.1,h.2.2.1⟩
theorem MG(B b:Nat)(bs:gF)(s:bB)(w:ay)(h:gH 156 5 B b bs w)(a:bs.length+s.size<=140737488355328)(c:B<=w.heap.size):
 Calls prog 75 #[.pointer (some ⟨b,0,none⟩),.string s] w λe w'=>e= .returned (.pointer (some ⟨b,0,none⟩))/\(gH 156 5 B b (bs++Lib.strCells s) w'/\nK B b w w'):=by
 go_enter func75,ntmps75
 go_wp2_with (go_at_call 97;refine(vU B b bs s _ h a c).mono ?_)
 rintro e w1 ⟨rfl,f,d⟩
 go_wp2
 go_ret
 exact⟨rfl,.inr f,d⟩
theorem wU(B b:Nat)(bs:gF)(s:bB)(w:ay)(h:gH 156 5 B b bs w)(a:bs.length+s.size<=140737488355328)(c:B<=w.heap.size):
 Calls prog 75 #[.pointer (some ⟨b,0,none⟩),.string s] w λe w'=>e= .returned (.pointer (some ⟨b,0,none⟩))/\(gH 156 5 B b (bs++Lib.strCells s) w'/\j5 B b w w'):=
 (MG B b bs s w h a c).mono λ_ _ h=>⟨h.1,h.2.1,h.2.2.1⟩
def qJ(n m:Nat):Nat->List Int
 |0=> []
 |k+1=>qJ n m k++ [((n/256^(m -1 -k) %256:Nat):Int)]
theorem eW(n m k:Nat):(qJ n m k).length=k:=by
 induction k with
 |zero=>rfl
 |succ k a=>rw[qJ,am,a];rfl
theorem qK(n m k:Nat):∀b∈qJ n m k,0<=b/\b<=255:=by
 induction k with
 |zero=>intro b a;cases a
 |succ k c=>
  intro b a;rw[qJ,bT]at a;rcases a with a|a
  .exact c b a
  .rw[ar.1 a];omega
theorem Bn(n m:Nat)(D:n<18446744073709551616)(hm:m<=8)(B b:Nat)(bs:gF)(w:ay)(h:gH 156 5 B b bs w)(l:bs.length<=100000000)(d:B<=w.heap.size):
 Calls prog 101 #[.pointer (some ⟨b,0,none⟩),.int .u64 n,.int .i64 m] w λe w'=>e= .returned (.pointer (some ⟨b,0,none⟩))/\(gH 156 5 B b (bs++(qJ n m m).map (Value.int .u8)) w'/\nK B b w w'):=by
 have r:=aa h;clear h
 go_enter func101,ntmps101
 go_wp2_with fail
 go_loopw [7] (λi wr=> ∃k:Nat,k<=m/\i= .int .i64 ((m:Int) -1 -k)/\gH 156 5 B b (bs++(qJ n m k).map (Value.int .u8)) wr/\nK B b w wr) (λi _=>((intOf i)+1).toNat)
 case atStart=>exact⟨0,af,by go_num,by simpa[qJ]using r.o,nK.refl _ _ w⟩
 case round=>
  obtain⟨k,E,rfl,o,a⟩:=hrel;have p:=aa o;clear o
  by_cases s:k<m
  .obtain⟨i,t⟩:∃i:Nat,(m:Int) -1 -k=i:=⟨m -1 -k,af⟩;have u:i<8:=af;have F:IntKind.i64.wrap (8*(i:Int))=8*(i:Int):=by rw[fu];omega
   have v:(0:Int)<=8*(i:Int):=af;have x:8*(i:Int)<=64:=af
   have y:IntKind.u8.wrap ((n:Int)/2^(8*(i:Int)).toNat)=((n/256^(m -1 -k) %256:Nat):Int):=by
    obtain rfl:i=m -1 -k:=af;rw[show(8*((m -1 -k:Nat):Int)).toNat=8*(m -1 -k) by omega,jf,Int.pow_mul,show(2:Int)^8=256 from rfl]
    push_cast
    rfl
   have f:qJ n m (k+1)=qJ n m k++ [((n/256^(m -1 -k) %256:Nat):Int)]:=rfl;generalize((n/256^(m -1 -k) %256:Nat):Int)=c at y f;have z:=aa f;clear f;rw[t]
   go_wp2_with fail
   have q:(bs++(qJ n m k).map (Value.int .u8)).length+1<=140737488355328:=by rw[am,aM,eW];omega
   have A:=aa q;clear q
   go_region_with (go_at_call 92;refine(rW B b _ c _ (show gH 156 5 B b (bs++(qJ n m k).map (Value.int .u8)) wr.drew from p.o) A.o (ap d a.1.size)).mono ?_;rintro e w1 ⟨rfl,C,g,j⟩)
   all_goals
    go_wp2_with fail
    go_roundw
    case rel=>exact⟨k+1,af,by go_num,.inr (by rw[z.o,cN,<-bf];exact C),(show nK B b w wr.drew from⟨a.1.drew,a.2⟩).trans ⟨g,j⟩⟩
    case measure=>simp[intOf]
  .have G:¬0<=(m:Int) -1 -k:=af;obtain rfl:k=m:=af
   go_wp2_with fail
   go_ret
   exact⟨rfl,p.o,a⟩
theorem OE(n m:Nat)(d:n<18446744073709551616)(hm:m<=8)(B b:Nat)(bs:gF)(w:ay)(h:gH 156 5 B b bs w)(a:bs.length<=100000000)(c:B<=w.heap.size):
 Calls prog 101 #[.pointer (some ⟨b,0,none⟩),.int .u64 n,.int .i64 m] w λe w'=>e= .returned (.pointer (some ⟨b,0,none⟩))/\(gH 156 5 B b (bs++(qJ n m m).map (Value.int .u8)) w'/\j5 B b w w'):=
 (Bn n m d hm B b bs w h a c).mono λ_ _ h=>⟨h.1,h.2.1,h.2.2.1⟩
theorem abg(n:Nat)(j:n<4294967296)(B b:Nat)(bs:gF)(w:ay)(h:gH 156 5 B b bs w)(a:bs.length<=100000000)(c:B<=w.heap.size):
 Calls prog 67 #[.pointer (some ⟨b,0,none⟩),.int .u32 n] w λe w'=>e= .returned (.pointer (some ⟨b,0,none⟩))/\(gH 156 5 B b (bs++(qJ n 4 4).map (Value.int .u8)) w'/\nK B b w w'):=by
 have i:=aa h;clear h
 have k:IntKind.u64.wrap (n:Int)=n:=by
  have e:IntKind.u64.wrap (n:Int)=(n:Int) %18446744073709551616:=by simp[IntKind.wrap,IntKind.bits,IntKind.signed]
  rw[e];omega
 go_enter func67,ntmps67
 go_wp2_with (go_at_call 101;refine(Bn n 4 af an B b bs _ i.o a c).mono ?_)
 rintro e w1 ⟨rfl,g,d⟩;have f:=aa g;clear g
 go_wp2
 go_ret
 exact⟨rfl,f.o,d⟩
theorem Ee(n:Nat)(d:n<4294967296)(B b:Nat)(bs:gF)(w:ay)(h:gH 156 5 B b bs w)(a:bs.length<=100000000)(c:B<=w.heap.size):
 Calls prog 67 #[.pointer (some ⟨b,0,none⟩),.int .u32 n] w λe w'=>e= .returned (.pointer (some ⟨b,0,none⟩))/\(gH 156 5 B b (bs++(qJ n 4 4).map (Value.int .u8)) w'/\j5 B b w w'):=
 (abg n d B b bs w h a c).mono λ_ _ h=>⟨h.1,h.2.1,h.2.2.1⟩
theorem O1(n:Nat)(i:n<18446744073709551616)(B b:Nat)(bs:gF)(w:ay)(h:gH 156 5 B b bs w)(a:bs.length<=100000000)(c:B<=w.heap.size):
 Calls prog 174 #[.pointer (some ⟨b,0,none⟩),.int .u64 n] w λe w'=>e= .returned (.pointer (some ⟨b,0,none⟩))/\(gH 156 5 B b (bs++(qJ n 8 8).map (Value.int .u8)) w'/\j5 B b w w'):=by
 have j:=aa h;clear h
 go_enter func174,ntmps174
 go_wp2_with (go_at_call 101;refine(OE n 8 i an B b bs _ j.o a c).mono ?_)
 rintro e w1 ⟨rfl,g,d⟩;have f:=aa g;clear g
 go_wp2
 go_ret
 exact⟨rfl,f.o,d⟩
theorem sM(s:bB)(w:ay):
 Calls prog 109 #[.string s] w λe a=>e= .returned (.pointer (some ⟨w.heap.size,0,none⟩))/\a=w.alloc (.cells #[.string s,.nilIface] 244):=by
 go_enter func109,ntmps109
 go_wp2
 go_ret
 exact⟨rfl,rfl⟩
theorem GV(g:Nat)(s:bB)(n:Nat)(b:n<=s.size)(w:ay)(h:Whole w g 244 #[.string s,.nilIface]):
 Calls prog 145 #[.pointer (some ⟨g,0,none⟩),.int .i64 n] w λe a=>e= .returned (.string (s.extract 0 n))/\a=w.setCell ⟨g,0,none⟩ (.string (s.extract n s.size)):=by
 have c0:w.cell? ⟨g,0,none⟩=some (.string s):=by rw[h.at_];rfl
 have c1:w.cell? ⟨g,1,none⟩=some .nilIface:=by rw[h.at_];rfl
 have c:=h.free 0;have d:max (n:Int) 0=n:=af;have f:¬(s.size:Int)<n:=af;have oU:(n:Int)<=s.size:=af
 go_enter func145,ntmps145
 go_wp2
 go_ret
 exact⟨rfl,rfl⟩
def ph(ws:List Int):Nat->Int
 |0=>0
 |k+1=>ix ws k+256*ph ws k
theorem Ff(ws:aR)(h:jr ws)(k:Nat):0<=ph ws k/\ph ws k<256^k:=by
 induction k with
 |zero=>exact⟨o4 _,by show(0:Int)<1;decide⟩
 |succ k a=>
  have b:=h k;have e:(256:Int)^(k+1)=256*256^k:=by rw[Int.pow_succ,Int.mul_comm]
  rw[ph,e];omega
theorem Nz{w}{g m}{t}{xs zs}(h:rY w g t m (xs++zs))(n:Nat)(a:xs.length=n):∀q,q<n->w.cell? ⟨g,0+q,none⟩=some (.int .u8 (xs.getD q 0)):=λq b=>by
 rw[aW,h.cell q (by rw[am];omega),jk _ _ _ af]
 rfl
end Go.Proofs.P
namespace Go.Spk
inductive iV where
 |ok (s:ByteArray)
 |bad (a:Addr)
def AJ(a:Addr):iV->iV
 | .ok _=> .bad a
 | .bad b=> .bad b
def gj(b:Addr)(n:Nat):iV->ByteArray×iV
 | .ok s=>if n<=s.size then(s.extract 0 n,.ok (s.extract n s.size))else(⟨#[]⟩,.bad b)
 | .bad a=>(⟨#[]⟩,.bad a)
theorem qV{aE}{n}{s}(h:n<=s.size):gj aE n (.ok s)=(s.extract 0 n,.ok (s.extract n s.size)):=aJ h
theorem uF{aE}{n}{s}(h:¬n<=s.size):gj aE n (.ok s)=(⟨#[]⟩,.bad aE):=aq h
def iV.left:iV->Nat
 | .ok s=>s.size
 | .bad _=>0
theorem oD(c:Addr)(n:Nat)(b:iV):(gj c n b).2.left<=b.left:=by
 cases b with
 |bad a=>exact ak _
 |ok s=>
  by_cases h:n<=s.size
  .rw[qV h];show(s.extract n s.size).size<=s.size;simp
  .rw[uF h];exact ce _
theorem OF(c:Addr)(n:Nat)(b:iV):(gj c n b).1.size=n\/(gj c n b).1=⟨#[]⟩:=by
 cases b with
 |bad a=>exact .inr rfl
 |ok s=>
  by_cases h:n<=s.size
  .rw[qV h];left;show(s.extract 0 n).size=n;simp;omega
  .rw[uF h];exact .inr rfl
theorem sD(a:Addr)(n:Nat)(b:iV):(gj a n b).1.size<=n:=by
 rcases OF a n b with h|h
 .omega
 .rw[h];exact ce _
theorem j5.bZ{w w'}{g}(h:w.grownBy w' (some g)):j5 w.heap.size g w w':=
 (j5.refl w.heap.size g w).grown h (ak _) (λk a=>by injection a with a;exact .inr a.symm)
end Go.Spk
namespace Go.Proofs.P
def iV.row:iV->Array Value
 | .ok s=> #[.string s,.nilIface]
 | .bad a=> #[.string ⟨#[]⟩,bM a]
def jF(w:World)(g:Nat)(a:iV):Prop:=Whole w g 244 (iV.row a)
theorem tH(g:Nat)(d:iV)(a:Addr)(w:ay)(h:jF w g d):
 Calls prog 179 #[.pointer (some ⟨g,0,none⟩),bM a] w λe i=>e= .returned (.tuple #[])/\jF i g (AJ a d)/\w.grownBy i (some g):=by
 cases d with
 |ok s=>
  have c:Whole w g 244 #[.string s,.nilIface]:=h;have c0:w.cell? ⟨g,0,none⟩=some (.string s):=by rw[c.at_];rfl
  have c1:w.cell? ⟨g,1,none⟩=some .nilIface:=by rw[c.at_];rfl
  have k:=c.free 0;have l:=c.free 1;have f:=aa (show Whole ((w.setCell ⟨g,0,none⟩ (.string ⟨#[]⟩)).setCell ⟨g,1,none⟩ (bM a)) g 244 #[.string ⟨#[]⟩,bM a]from(c.stored 0 _).stored 1 _);have j:=aa (aZ (aY (w:=w) ⟨g,0,none⟩ rfl (.string ⟨#[]⟩)) (aY ⟨g,1,none⟩ rfl (bM a)));clear h c;unfold bM at*
  go_enter func179,ntmps179
  go_wp2_with fail
  go_end0
  exact⟨rfl,f.o,j.o⟩
 |bad b=>
  have c:Whole w g 244 #[.string ⟨#[]⟩,bM b]:=h;have c0:w.cell? ⟨g,0,none⟩=some (.string ⟨#[]⟩):=by rw[c.at_];rfl
  have c1:w.cell? ⟨g,1,none⟩=some (bM b):=by rw[c.at_];rfl
  have f:=aa c;clear h c;unfold bM at*
  go_enter func179,ntmps179
  go_wp2_with fail
  go_end0
  exact⟨rfl,f.o,ez _ _⟩
theorem jF.only{w w'}{g}{st}(h:jF w g st)(a:Below w.heap.size w w'):jF w' g st:=Whole.below h a (Whole.inside h)
theorem uz(g:Nat)(j:iV)(d:Addr)(n:Nat)(q:n<=1000000000000)(w:ay)(h:jF w g j)(r:w.cell? ⟨1,0,none⟩=some (bM d)):
 Calls prog 145 #[.pointer (some ⟨g,0,none⟩),.int .i64 n] w λe o=>e= .returned (.string (gj d n j).1)/\jF o g (gj d n j).2/\w.grownBy o (some g):=by
 have t:max (n:Int) 0=n:=af;cases j with
 |ok s=>
  by_cases c:n<=s.size
  .have a:Whole w g 244 #[.string s,.nilIface]:=h;refine(GV g s n c w a).mono ?_;rintro e w1 ⟨rfl,rfl⟩;rw[qV c];exact⟨rfl,a.stored 0 _,aY _ rfl _⟩
  .have a:Whole w g 244 #[.string s,.nilIface]:=h;have c0:w.cell? ⟨g,0,none⟩=some (.string s):=by rw[a.at_];rfl
   have c1:w.cell? ⟨g,1,none⟩=some .nilIface:=by rw[a.at_];rfl
   have u:(s.size:Int)<n:=af;have k:=aa (tH g (.ok s) d w h);have p:gj d n (.ok s)=(⟨#[]⟩,.bad d):=uF c;rw[p];clear h a c p
   go_enter func145,ntmps145
   go_wp2_with fail
   refine k.o.mono ?_;rintro e w1 ⟨rfl,f,i⟩;have l:=aa f;have m:=aa i;clear f i
   go_wp2_with fail
   go_ret
   exact⟨rfl,l.o,m.o⟩
 |bad b=>
  have a:Whole w g 244 #[.string ⟨#[]⟩,bM b]:=h;have c0:w.cell? ⟨g,0,none⟩=some (.string ⟨#[]⟩):=by rw[a.at_];rfl
  have c1:w.cell? ⟨g,1,none⟩=some (bM b):=by rw[a.at_];rfl
  have k:=aa (tH g (.bad b) d w h);clear h a;unfold bM at c1
  go_enter func145,ntmps145
  go_wp2_with fail
  refine k.o.mono ?_;rintro e w1 ⟨rfl,f,i⟩;have l:=aa f;have m:=aa i;clear f i
  go_wp2_with fail
  go_ret
  exact⟨rfl,l.o,m.o⟩
end Go.Proofs.P
namespace Go.Spk
theorem j5.tz{w w'}{B b i o}{v}(h:j5 B b w w')(c:w.cell? ⟨i,o,none⟩=some v)(d:i<B)(a:i≠b):w'.cell? ⟨i,o,none⟩=some v:=by
 have:=h.block i d a;unfold World.cell? at c⊢;rw[this];exact c
end Go.Spk
namespace Go.Proofs.P
def eT(a:Addr)(m:Nat)(b:iV):Int×iV:=(ph (bI (gj a m b).1) (gj a m b).1.size,(gj a m b).2)
theorem uE(a:Addr)(m:Nat)(b:iV):0<=(eT a m b).1/\(eT a m b).1<256^m:=by
 have h:=Ff (bI (gj a m b).1) (c8 _) (gj a m b).1.size
 have c:(256:Int)^(gj a m b).1.size<=256^m:=by
  have:=es (n:=256) an (sD a m b);have d:((256^(gj a m b).1.size:Nat):Int)<=((256^m:Nat):Int):=Int.ofNat_le.2 this;rwa[tk,tk]at d
 exact⟨h.1,Int.lt_of_lt_of_le h.2 c⟩
def xT(c:Addr)(n:Int)(b:Nat):iV->iV
 | .ok s=>if(b:Int)<n then .bad c else .ok s
 | .bad a=> .bad a
def fh(b d:Addr)(a:Nat)(c:iV):ByteArray×iV:=
 gj b (eT b 4 c).1.toNat (xT d (eT b 4 c).1 a (eT b 4 c).2)
theorem Mq(g:Nat)(b:iV)(d:Addr)(m:Nat)(hm:m<=8)(w:ay)(h:jF w g b)(A:w.cell? ⟨1,0,none⟩=some (bM d)):
 Calls prog 138 #[.pointer (some ⟨g,0,none⟩),.int .i64 m] w λe B=>e= .returned (.int .u64 (eT d m b).1)/\jF B g (eT d m b).2/\j5 w.heap.size g w B:=by
 have C:=aa (uz g b d m af w h A);obtain⟨T,q⟩:=aP ((gj d m b).1);obtain⟨s2,j⟩:=aP ((gj d m b).2);have n:=aa (show T.size<=8 by have:=sD d m b;rw[q];omega);have D:=aa (by unfold eT;rw[q,j]:eT d m b=(ph (bI T) T.size,s2));rw[D.o];rw[<-q,<-j]at C;clear q j h A hm D
 go_enter func138,ntmps138
 go_wp2_with fail
 refine C.o.mono ?_;rintro e W ⟨rfl,E,F⟩;have r:=aa (j5.bZ F);have G:=aa E;clear E F;have s:=λJ:World=>gD (P:=prog) J 9 99 5 T underlying9 underlying99 underlying5
 go_wp2_with fail
 clear s;have f:=grownCap_ge W T.size 0 5;generalize grownCap W T.size 0 5=c at f⊢;have a:=rY.made (w:=W) rfl T c 5;have o:=aa ((r.o.alloc r.o.size (.cells (bytesRow T c) 5 ((bytesRow T c).size,(bytesRow T c).size+1))).drew);have p:=aa (show jF ((W.alloc (.cells (bytesRow T c) 5 ((bytesRow T c).size,(bytesRow T c).size+1))).drew) g s2 from(Whole.alloc G.o _).drew);generalize W.heap.size=Q at a⊢;generalize(W.alloc (.cells (bytesRow T c) 5 ((bytesRow T c).size,(bytesRow T c).size+1))).drew=K at a o p⊢;have t:=aa (Nz a T.size (by rw[aj]));clear a f r G
 go_loopw [5,13] (λx i wr=> ∃k:Nat,k<=T.size/\i= .int .i64 k/\x= .int .u64 (ph (bI T) k)/\wr=K) (λ_ i _=>T.size -(intOf i).toNat)
 case atStart=>exact⟨0,af,rfl,rfl,rfl⟩
 case round=>
  obtain⟨k,R,rfl,rfl,rfl⟩:=hrel
  by_cases u:k<T.size
  .have S:(k:Int)<T.size:=af;have L:=n.o;have l:=t.o k u;rw[aW,show(bI T).getD k 0=ix (bI T) k from rfl]at l;have H:=c8 T k;have v:=Ff (bI T) (c8 T) k;have y:k<8:=by have:=n.o;omega
   have M:(256:Int)^k<=72057594037927936:=by rcases(by omega:k=0\/k=1\/k=2\/k=3\/k=4\/k=5\/k=6\/k=7)with h|h|h|h|h|h|h|h<;>(rw[h];decide)
   have z:ph (bI T) k<72057594037927936:=af;have N:=zk (ph (bI T) k) (ix (bI T) k) v.1 z H.1 H.2
   have U:IntKind.u64.wrap (ph (bI T) k*256)=ph (bI T) k*256:=by
    have e:IntKind.u64.wrap (ph (bI T) k*256)=(ph (bI T) k*256) %18446744073709551616:=by simp[IntKind.wrap,IntKind.bits,IntKind.signed]
    rw[e];omega
   have I:ph (bI T) (k+1)=ix (bI T) k+256*ph (bI T) k:=rfl;have O:=aa I;clear I M y
   go_wp2_with fail
   go_roundw
   case rel=>exact⟨k+1,af,by go_num,by rw[O.o],by first|rfl|trivial⟩
   case measure=>simp[intOf];omega
  .obtain rfl:k=T.size:=af
   go_wp2_with fail
   go_ret
   exact⟨rfl,p.o,o.o⟩
theorem zR(g:Nat)(a:iV)(b:Addr)(w:ay)(h:jF w g a)(c:w.cell? ⟨1,0,none⟩=some (bM b)):
 Calls prog 110 #[.pointer (some ⟨g,0,none⟩)] w λe d=>e= .returned (.int .u32 (eT b 4 a).1)/\jF d g (eT b 4 a).2/\j5 w.heap.size g w d:=by
 have j:=aa (Mq g a b 4 an w h c);have k:=uE b 4 a;have l:(256:Int)^4=4294967296:=an;generalize eT b 4 a=r at*;have o:IntKind.u32.wrap r.1=r.1:=by rw[qx];omega
 clear h c k l
 go_enter func110,ntmps110
 go_wp2_with fail
 refine j.o.mono ?_;rintro e W ⟨rfl,f,i⟩;have m:=aa i;have n:=aa f;clear f i
 go_wp2_with fail
 go_ret
 exact⟨rfl,n.o,m.o⟩
theorem GU(g:Nat)(a:iV)(b:Addr)(w:ay)(h:jF w g a)(c:w.cell? ⟨1,0,none⟩=some (bM b)):
 Calls prog 140 #[.pointer (some ⟨g,0,none⟩)] w λe d=>e= .returned (.int .u8 (eT b 1 a).1)/\jF d g (eT b 1 a).2/\j5 w.heap.size g w d:=by
 have j:=aa (Mq g a b 1 an w h c);have k:=uE b 1 a;have l:(256:Int)^1=256:=an;generalize eT b 1 a=r at*;have o:IntKind.u8.wrap r.1=r.1:=by rw[jf];omega
 clear h c k l
 go_enter func140,ntmps140
 go_wp2_with fail
 refine j.o.mono ?_;rintro e W ⟨rfl,f,i⟩;have m:=aa i;have n:=aa f;clear f i
 go_wp2_with fail
 go_ret
 exact⟨rfl,n.o,m.o⟩
theorem Q7(g:Nat)(a:iV)(b:Addr)(w:ay)(h:jF w g a)(c:w.cell? ⟨1,0,none⟩=some (bM b)):
 Calls prog 142 #[.pointer (some ⟨g,0,none⟩)] w λe d=>e= .returned (.bool (decide ((eT b 1 a).1≠0)))/\jF d g (eT b 1 a).2/\j5 w.heap.size g w d:=by
 have j:=aa (GU g a b w h c);generalize eT b 1 a=r at*;clear h c
 go_enter func142,ntmps142
 go_wp2_with fail
 refine j.o.mono ?_;rintro e W ⟨rfl,f,i⟩;have k:=aa i;have l:=aa f;clear f i
 go_wp2_with fail
 go_ret
 refine⟨?_,l.o,k.o⟩
 by_cases h:r.1=0<;>simp[h]
theorem wG(g:Nat)(o:iV)(c j:Addr)(b:Nat)(J:b<=1000000000)(w:ay)(h:jF w g o)(p:w.cell? ⟨1,0,none⟩=some (bM c))(z:w.cell? ⟨3,0,none⟩=some (bM j))(Y:30<=g):
 Calls prog 143 #[.pointer (some ⟨g,0,none⟩),.int .i64 b] w λe P=>e= .returned (.string (fh c j b o).1)/\jF P g (fh c j b o).2/\j5 w.heap.size g w P:=by
 have K:=aa (zR g o c w h p);have B:=uE c 4 o;have Q:(256:Int)^4=4294967296:=an;have C:=aa (show fh c j b o=gj c (eT c 4 o).1.toNat (xT j (eT c 4 o).1 b (eT c 4 o).2)from rfl);rw[C.o];clear C;obtain⟨n,s2,S⟩:∃n s2,eT c 4 o=(n,s2):=⟨_,_,rfl⟩;rw[S]at K B⊢;dsimp only at K B⊢;rw[Q]at B;obtain⟨k,rfl⟩:=Int.eq_ofNat_of_zero_le B.1;rw[Int.toNat_natCast];obtain⟨s3,v⟩:=aP (xT j (k:Int) b s2);have x:=aa v;rw[<-v];obtain⟨R,L⟩:=aP (gj c k s3);have y:=aa L;rw[<-L];clear v L;have hk:k<4294967296:=af;have Z:=aa (Whole.inside h);have D:=aa p;have E:=aa z;clear h p z B Q S
 go_enter func143,ntmps143
 go_wp2_with fail
 refine K.o.mono ?_;rintro e W ⟨rfl,U,H⟩;have A:=aa H;have F:=aa U;have p:W.cell? ⟨1,0,none⟩=some (bM c):=H.tz D.o (block_lt_of_cell D.o) af;have z:W.cell? ⟨3,0,none⟩=some (bM j):=H.tz E.o (block_lt_of_cell E.o) af;clear U H;have hw:IntKind.i64.wrap (k:Int)=k:=by rw[IntKind.wrap_i64];omega
 cases s2 with
 |bad a=>
  have c1:W.cell? ⟨g,1,none⟩=some (bM a):=by rw[Whole.at_ F.o];rfl
  unfold bM at c1;have l:=aa (uz g (.bad a) c k af W F.o p);clear p z
  go_wp2_with fail
  refine l.o.mono ?_;rintro e I ⟨rfl,r,d⟩;have m:=aa r;have i:=aa (A.o.grown d A.o.size (λq f=>by injection f with f;exact .inr f.symm));clear r d;have t:=aa (by rw[y.o,x.o];rfl:R=gj c k (.bad a))
  go_wp2_with fail
  go_ret
  exact⟨by rw[t.o];rfl,by rw[t.o];exact m.o,i.o⟩
 |ok s=>
  have c1:W.cell? ⟨g,1,none⟩=some .nilIface:=by rw[Whole.at_ F.o];rfl
  by_cases V:b<k
  .have M:(b:Int)<k:=af;have t:=aa (by rw[y.o,x.o];congr 1;exact if_pos M:R=gj c k (.bad j));have HF:=aa (tH g (.ok s) j W F.o);have u:=aa p;unfold bM at z;clear p
   go_wp2_with fail
   refine HF.o.mono ?_;rintro e I ⟨rfl,r,d⟩;have m:=aa (show jF I g (.bad j)from r);have i:=aa (A.o.grown d A.o.size (λq f=>by injection f with f;exact .inr f.symm));have l:=aa (uz g (.bad j) c k af I m.o ((j5.bZ d).tz u.o (block_lt_of_cell u.o) af));clear r d
   go_wp2_with fail
   refine l.o.mono ?_;rintro e W3 ⟨rfl,X,G⟩;have N:=aa X;have O:=aa (i.o.grown G i.o.size (λq f=>by injection f with f;exact .inr f.symm));clear X G
   go_wp2_with fail
   go_ret
   exact⟨by rw[t.o];rfl,by rw[t.o];exact N.o,O.o⟩
  .have M:¬(b:Int)<k:=af;have t:=aa (by rw[y.o,x.o];congr 1;exact if_neg M:R=gj c k (.ok s));have l:=aa (uz g (.ok s) c k af W F.o p);clear p z
   go_wp2_with fail
   refine l.o.mono ?_;rintro e I ⟨rfl,r,d⟩;have m:=aa r;have i:=aa (A.o.grown d A.o.size (λq f=>by injection f with f;exact .inr f.symm));clear r d
   go_wp2_with fail
   go_ret
   exact⟨by rw[t.o];rfl,by rw[t.o];exact m.o,i.o⟩
def mB(n:Nat):List Int:=qJ 0 4 4++qJ n 8 8
def m8(b:Bool):Nat:=if b then 0 else 4
def vQ(b:Bool):Nat:=if b then 16 else 0
def oY(b:Bool)(a:Nat):Nat:=4+(8 -(m8 b+(a+1)+4) %8) %8
def qL(b:Bool)(ws:List Int):List Int:= [(oY b ws.length:Int)]++ws++List.replicate (oY b ws.length) 0
def ta(b:Bool)(a:Nat):List Int:=qJ (a+1+oY b a) 4 4
def Fi(b:Bool)(a:List Int)(n:Nat)(ws:List Int):List Int:=if b then mi a (mB n) (qL b ws) (ta b ws.length)else qL b ws
def aV(b:Bool)(a:List Int)(n:Nat)(ws:List Int):List Int:=ta b ws.length++Fi b a n ws
def q9(ws:List Int):Nat:=(ph ws 4).toNat
def yS(b:Bool)(m:Nat):Bool:=decide (m+m8 b<m8 b*2+8)||decide ((m+m8 b) %8≠0)
def se(b:Bool)(m:Nat):Nat:=4+m+vQ b
def CG(b:Bool)(m:Nat)(ws:List Int):List Int:=(ws.drop 4).take (m+vQ b)
def oR(b:Bool)(a:List Int)(n m:Nat)(ws:List Int):List Int:=if b then sY a (mB n) (CG b m ws) (ws.take 4)else CG b m ws
def na(b:Bool)(a:List Int)(n m:Nat)(ws:List Int):Int:=if b then sX a (mB n) (CG b m ws) (ws.take 4)else 0
def KH(a:List Int):Bool:=decide (ix a 0<4)||decide ((a.length:Int)<=ix a 0+1)
def px(b:Bool)(a:List Int)(n:Nat)(ws:List Int):Int×Bool×List Int×List Int:=
 if ws.length<4 then(0,false,[],ws)
 else if 33024<q9 ws then(4,false,[],[])
 else if yS b (q9 ws)then(3,false,[],[])
 else if ws.length<se b (q9 ws)then(0,false,[],ws)
 else if na b a n (q9 ws) ws≠0 then(na b a n (q9 ws) ws,false,[],[])
 else if KH (oR b a n (q9 ws) ws)then(3,false,[],[])
 else(0,true,((oR b a n (q9 ws) ws).take ((oR b a n (q9 ws) ws).length -(ix (oR b a n (q9 ws) ws) 0).toNat)).drop 1,ws.drop (se b (q9 ws)))
theorem RG(n:Nat)(b:n<4294967296)(a:aR):ph (qJ n 4 4++a) 4=n:=by
 simp only[qJ,List.nil_append,List.cons_append,ph,ix,List.getD_cons_zero,List.getD_cons_succ];simp;omega
theorem lL(b:Bool)(a:Nat):(ta b a).length=4:=eW _ _ _
theorem oK(b:Bool)(a:Nat):4<=oY b a/\oY b a<=11:=by unfold oY;omega
theorem Sb(b:Bool)(a:Nat):(a+1+oY b a+m8 b) %8=0:=by unfold oY;omega
theorem Nq(b:Bool):(m8 b=0/\vQ b=16)\/(m8 b=4/\vQ b=0):=by cases b<;>simp[m8,vQ]
theorem nc(b:Bool)(ws:aR):(qL b ws).length=ws.length+1+oY b ws.length:=by simp[qL];omega
theorem ut(b:Bool)(ws:aR)(c:jr ws):∀z∈qL b ws,0<=z/\z<=255:=by
 intro z a;have:=oK b ws.length;simp only[qL,List.mem_append,List.mem_singleton,List.mem_replicate]at a;rcases a with(rfl|a)|⟨_,rfl⟩
 .omega
 .exact cY c z a
 .omega
theorem tZ(b:Bool)(a:aR)(n:Nat)(ws:aR):(Fi b a n ws).length=ws.length+1+oY b ws.length+vQ b:=by
 unfold Fi vQ;cases b
 .simp[nc]
 .simp[Fy,nc]
theorem jM(b:Bool)(a:aR)(n:Nat)(ws:aR):(aV b a n ws).length=se b (ws.length+1+oY b ws.length):=by
 unfold aV se;rw[am,lL,tZ];omega
theorem DF(b:Bool)(a:Nat)(hl:a<=32768)(c:aR):q9 (ta b a++c)=a+1+oY b a:=by
 have:=oK b a;unfold q9 ta;rw[RG _ af];rfl
theorem Dv(b:Bool)(a:Nat)(h1:1<=a):yS b (a+1+oY b a)=false:=by
 have h:=Sb b a;have c:=oK b a;unfold yS;rw[Bool.or_eq_false_iff];constructor
 .rw[uq];rcases Nq b with⟨e,_⟩|⟨e,_⟩<;>rw[e]at h⊢ <;>omega
 .rw[uq];omega
theorem Kx{xs ys}(k:Nat)(h:∀i,i<k->ix xs i=ix ys i):ph xs k=ph ys k:=by
 induction k with
 |zero=>rfl
 |succ k a=>rw[ph,ph,h k af,a (λi b=>h i af)]
theorem Vb(xs:aR)(k i:Nat)(h:i<k):ix (xs.take k) i=ix xs i:=by
 unfold ix;simp[List.getD,h]
theorem Hq(ws:aR)(k:Nat)(h:4<=k):q9 (ws.take k)=q9 ws:=by
 unfold q9;rw[Kx 4 (λi a=>Vb ws k i af)]
theorem OH(b:Bool)(a:aR)(n:Nat)(ws:aR)(h1:1<=ws.length)(hl:ws.length<=32768)(k:Nat)(e:k<(aV b a n ws).length):
 px b a n ((aV b a n ws).take k)=(0,false,[],(aV b a n ws).take k):=by
 have c:((aV b a n ws).take k).length=k:=by rw[aO];omega
 have f:=oK b ws.length;unfold px;rw[c]
 by_cases d:k<4
 .rw[aJ d]
 .rw[aq d,Hq _ _ af,show aV b a n ws=ta b ws.length++Fi b a n ws from rfl,DF b _ hl,aq af,Dv b _ h1,aq bj,aJ (by rw[<-jM b a n ws];exact e)]
theorem PQ(b:Bool)(a:aR)(n m:Nat)(ws:aR):na b a n m ws=0\/na b a n m ws=2\/na b a n m ws=5:=by
 unfold na;cases b
 .left;rfl
 .unfold sX;simp only[if_true]
  split
  .right;left;rfl
  .split
   .left;rfl
   .right;right;rfl
theorem Sm(b:Bool)(a:aR)(n:Nat)(ws c:aR):CG b (ws.length+1+oY b ws.length) (aV b a n ws++c)=Fi b a n ws:=by
 unfold CG aV;rw[bf,gG (by rw[lL];exact ak _),fY (by rw[lL];exact ak _),eo,<-tZ b a n ws,List.take_left']
 rfl
theorem D5(b:Bool)(a:aR)(n:Nat)(ws c:aR)(g:jr ws)(h1:1<=ws.length)(hl:ws.length<=32768):
 px b a n (aV b a n ws++c)=(0,true,ws,c):=by
 have o:=oK b ws.length
 have i:q9 (aV b a n ws++c)=ws.length+1+oY b ws.length:=by
  rw[show aV b a n ws++c=ta b ws.length++(Fi b a n ws++c) by simp[aV]];exact DF b _ hl _
 have d:=Sm b a n ws c
 have f:(aV b a n ws++c).take 4=ta b ws.length:=by
  unfold aV;rw[bf,jD (by rw[lL];exact ak _),bL (by rw[lL];exact ak _)]
 have j:oR b a n (ws.length+1+oY b ws.length) (aV b a n ws++c)=qL b ws:=by
  unfold oR;rw[d,f];cases b
  .rfl
  .exact(DR a (mB n) (qL true ws) (ta true ws.length) (cm (ut true ws g))).1
 have k:na b a n (ws.length+1+oY b ws.length) (aV b a n ws++c)=0:=by
  unfold na;rw[d,f];cases b
  .rfl
  .exact(DR a (mB n) (qL true ws) (ta true ws.length) (cm (ut true ws g))).2
 have e:(aV b a n ws++c).length=se b (ws.length+1+oY b ws.length)+c.length:=by rw[am,jM]
 have h:ix (qL b ws) 0=(oY b ws.length:Int):=rfl;unfold px;rw[aq (by rw[e];unfold se;omega),i,aq af,Dv b _ h1,aq bj,aq (by rw[e];omega),k,aq bj,j]
 have l:KH (qL b ws)=false:=by
  unfold KH;rw[Bool.or_eq_false_iff,uq,uq,h,nc];omega
 rw[l,aq bj,h,nc];have m:ws.length+1+oY b ws.length -((oY b ws.length:Nat):Int).toNat=([(oY b ws.length:Int)]++ws).length:=bj;rw[m];unfold qL;rw[List.take_left' rfl,<-jM b a n ws,List.drop_left' rfl]
 rfl
def dU(n:Nat)(a:Bool)(b:List Int):Array Value:= #[.int .u64 n,.bool a]++ai .u8 b
end Go.Proofs.P
namespace Go.Spk
theorem Whole.FE{w}{g}{t}:∀(vs pre old post:gF),old.length=vs.length->Whole w g t (pre++old++post).toArray->Whole (w.setCells g pre.length vs) g t (pre++vs++post).toArray:=by
 intro vs
 induction vs generalizing w with
 |nil=>
  intro pre old post a h;obtain rfl:old= []:=by simpa using a
  exact h
 |cons v r c=>
  intro pre old post a h;cases old with
  |nil=>simp at a
  |cons x old=>
   have d:Whole (w.setCell ⟨g,pre.length,none⟩ v) g t ((pre++ [v])++old++post).toArray:=by
    have f:=h.stored pre.length v
    have e:(pre++x::old++post).toArray.setIfInBounds pre.length v=((pre++ [v])++old++post).toArray:=by
     simp
    rwa[e]at f
   have b:=c (pre++ [v]) old post (ek a) d;rw[am,List.length_singleton]at b;rw[World.setCells];simpa using b
theorem vM(g:Nat):∀(vs:List Value) (o:Nat) (w:World),w.grownBy (w.setCells g o vs) (some g)
 | [],o,w=>ez w _
 |v::r,o,w=>by
  rw[World.setCells];exact aZ (aY _ rfl _) (vM g r (o+1) _)
theorem w8{w c:ay}{b o}{cs}{r}(h:w.rangeAt b o cs)(d:w.grownBy c r)(e:b<w.heap.size)(a:some b≠r):c.rangeAt b o cs:=λj v f=>
 (df (d.block b e a)).trans (h j v f)
end Go.Spk
namespace Go.Proofs.P
attribute [local go_sem ↓] Go.wp_at_zero Go.wp_at_succ
theorem fJ(n:Nat)(b:Bool)(a:aR)(rest:gJ):dU n b a++rest=([Value.int .u64 n,Value.bool b]++a.map (Value.int .u8)++rest.toList).toArray:=by
 simp[dU,ai]
end Go.Proofs.P
namespace Go.Proofs.P
attribute [local go_sem ↓] Go.wp_at_zero Go.wp_at_succ
theorem LH{w}{g}{t}{cs new}(h:Whole w g t cs)(he:new.size=cs.size):Whole (w.setCells g 0 new.toList) g t new:=by
 have a:Whole w g t (([]:List Value)++cs.toList++ []).toArray:=by simpa using h
 have b:=a.FE new.toList [] cs.toList [] (by simp[he]);simpa using b
theorem IW{w}{g}{t}{cs new:gJ}(h:Whole w g t cs)(he:new.size=cs.size):w.there g 0 new.size:=λj a=>by
 rw[aW];exact⟨by rw[h.at_,gv af];rfl,h.free _⟩
def Xw(a:World)(S:ByteArray)(c:Nat):World:=(a.alloc (.cells (bytesRow S c) 5 ((bytesRow S c).size,(bytesRow S c).size+1))).drew
theorem Ys(a:ay)(S:bB)(c:Nat):rY (Xw a S c) a.heap.size 5 (bytesRow S c).size (bI S++List.replicate (c -S.size) 0):=by
 have h:=rY.made (w:=a) rfl S c 5;exact h
theorem Qq(a:ay)(N:aR)(c:Nat)(d:∀b∈N,0<=b/\b<=255):(Xw a (strOfNums N) c).rangeAt a.heap.size 0 (N.map (Value.int .u8)):=by
 intro j v e
 have f:j<N.length:=by
  have:=(aI.1 e).1;simpa using this
 rw[aW,(Ys a (strOfNums N) c).cell j (by rw[am,cJ d];omega),cJ d,jk _ _ _ f,<-e];simp[ix,List.getD,f]
def Pn(m:Nat)(N:List Int):Prop:=N.length=m/\ ∀b∈N,0<=b/\b<=255
def Pv(w:World)(x:Value)(m:Nat):Prop:= ∃g,x= .pointer (some ⟨g,0,none⟩)/\w.there g 0 m
def XY(m:Nat)(y:Value):Prop:= ∃N:List Int,N.length=m/\y= .agg (ai .u8 N)
def Xn:Value->Nat
 | .pointer (some a)=>a.block
 |_=>0
theorem abV(a:ay)(N:aR)(c:Nat)(x:cH)(d:x= .pointer (some ⟨a.heap.size,0,none⟩))(b:Pn 12 N):
 (Instr.loadAt 241 x).run prog (a.alloc (.cells (bytesRow (strOfNums N) c) 5 ((bytesRow (strOfNums N) c).size,(bytesRow (strOfNums N) c).size+1))).drew= .ok (.agg (ai .u8 N)) (a.alloc (.cells (bytesRow (strOfNums N) c) 5 ((bytesRow (strOfNums N) c).size,(bytesRow (strOfNums N) c).size+1))).drew:=by
 subst d;exact run_loadAt_mid (P:=prog) (Xw a (strOfNums N) c) a.heap.size 0 241 (N.map (Value.int .u8)) _ (Qq a N _ b.2) underlying241 rfl (by rw[aM,b.1];kernel_rfl)
theorem acm(w:ay)(x y:cH)(b:Pv w x 12)(c:XY 12 y):(Instr.storeAt 241 x y).run prog w= .ok () (w.setCells (Xn x) 0 y.cells.toList):=by
 obtain⟨g,rfl,d⟩:=b;obtain⟨N,a,rfl⟩:=c;have h:=run_storeAt_mid (P:=prog) w g 0 241 (ai .u8 N) (by rw[ag,a];exact d) (by rw[ag,a];kernel_rfl) (fL _ _);exact h
theorem Nh{d}{x}{g}{f}{b}{a}{e:ay}{N}{c}{K}{Q}(i:a.eval x= .pointer (some ⟨e.heap.size,0,none⟩))(j:Pn 12 N):
 Oper.wp prog ⟨some d,.load 241 x,g,f,b,none⟩ a (e.alloc (.cells (bytesRow (strOfNums N) c) 5 ((bytesRow (strOfNums N) c).size,(bytesRow (strOfNums N) c).size+1))).drew K Q=
  K (a.put (some d) (.agg (ai .u8 N))) (e.alloc (.cells (bytesRow (strOfNums N) c) 5 ((bytesRow (strOfNums N) c).size,(bytesRow (strOfNums N) c).size+1))).drew:=by
 have h:=abV e N c _ i j;unfold Oper.wp;simp only[execOp,Sem.run_bind,h,Result.andThen_ok,Sem.run_pure]
 rfl
theorem Nj{x y}{d}{c}{b}{a}{w}{K}{Q}(e:Pv w (a.eval x) 12)(f:XY 12 (a.eval y)):
 Oper.wp prog ⟨none,.store 241 x y,d,c,b,none⟩ a w K Q=K (a.put none undef) (w.setCells (Xn (a.eval x)) 0 (a.eval y).cells.toList):=by
 have h:=acm w _ _ e f;unfold Oper.wp;simp only[execOp,Sem.run_bind,h,Result.andThen_ok,Sem.run_pure]
 rfl
attribute [local go_sem ↓] Nh Nj
theorem rf(n:Nat):(mB n).length=12:=by unfold mB;rw[am,eW,eW]
theorem vK(n:Nat):∀b∈mB n,0<=b/\b<=255:=by
 intro b a;unfold mB at a;rcases bT.1 a with h|h<;>exact qK _ _ _ b h
end Go.Proofs.P
namespace Go.Spk
section
variable {T e:TypeId}{B b:Nat}{bs:List Value}{w w':World}
theorem gH.mz(h:gH T e B b bs w)(l:w'.heap[b]?=w.heap[b]?)(m:∀i,B<=i->i<w.heap.size->w'.heap[i]?=w.heap[i]?):gH T e B b bs w':=by
 have key:∀p,BX T e B b p bs w->BX T e B b p bs w':=by
  rintro p ⟨v,n,j,o⟩;refine⟨v,l.trans n,⟨j.1,?_⟩,o⟩;rcases j.2 with q|⟨g,d,f,r,a,k,c⟩
  .exact .inl q
  .exact .inr ⟨g,d,f,r,a,(m g a (aT.1 k).1).trans k,c⟩
 exact h.elim (λx=> .inl (key _ x)) (λx=> .inr (key _ x))
theorem iJ.mz(h:iJ T e B b bs w)(l:w'.heap[b]?=w.heap[b]?)(m:∀i,B<=i->i<w.heap.size->w'.heap[i]?=w.heap[i]?):iJ T e B b bs w':=by
 have key:∀p,TG T e B b p bs w->TG T e B b p bs w':=by
  rintro p ⟨v,n,j,o⟩;refine⟨v,l.trans n,⟨j.1,?_⟩,o⟩;rcases j.2 with q|⟨g,d,f,r,s,a,k,c⟩
  .exact .inl q
  .exact .inr ⟨g,d,f,r,s,a,(m g a (aT.1 k).1).trans k,c⟩
 exact h.elim (λx=> .inl (key _ x)) (λx=> .inr (key _ x))
theorem gH.lt(h:gH T e B b bs w):b<w.heap.size:=by
 rcases h with⟨v,a,_⟩|⟨v,a,_⟩<;>exact(aT.1 a).1
theorem iJ.lt(h:iJ T e B b bs w):b<w.heap.size:=by
 rcases h with⟨v,a,_⟩|⟨v,a,_⟩<;>exact(aT.1 a).1
theorem gH.apt{B' b'}(h:gH T e B b bs w)(a:j5 B' b' w w')(c:w.heap.size<=B')(d:b≠b')(f:b'<B):gH T e B b bs w':=
 h.mz (a.block b (aL h.lt c) d) (λi j g=>a.block i (aL g c) af)
theorem gH.below(h:gH T e B b bs w)(a:Below w.heap.size w w'):gH T e B b bs w':=
 h.mz (a.block b h.lt) (λi _ c=>a.block i c)
theorem iJ.below(h:iJ T e B b bs w)(a:Below w.heap.size w w'):iJ T e B b bs w':=
 h.mz (a.block b h.lt) (λi _ c=>a.block i c)
theorem iJ.grown{g}(h:iJ T e B b bs w)(a:w.grownBy w' (some g))(c:b≠g)(f:g<B):iJ T e B b bs w':=
 h.mz (a.block b h.lt (bE c)) (λi j d=>a.block i d (bE af))
theorem Bf{a}{r}{C}(h:w.grownBy a r)(k:Below C a w')(d:w.heap.size<=C):w.grownBy w' r:=
 ⟨k.os.trans h.os,k.tape.trans h.tape,k.output.trans h.output,ap h.size k.size,λi c b=>(k.block i af).trans (h.block i c b)⟩
theorem ui(s:bB):Lib.strCells s=(bI s).map (Value.int .u8):=by
 unfold Lib.strCells bI;rw[List.map_map]
 rfl
end
theorem ub{P}{ops}{C}{o}{a}{K}{b}(f:Region.wanted o (yielded ops a.tmps)=true)(e:fg)(x:Operand)(j:o.op= .load e x)
 (g c:Nat) (k:a.eval x= .pointer (some ⟨g,c,none⟩)) (cs:gJ) (d:TypeDesc) (hS:∀w,C w->w.rangeAt g c cs.toList)
 (l:P.underlying e=some d) (m:d.isRow=true) (n:(P.info? e).map (·.size)=some cs.size) (p:K (a.put o.dst (.agg cs))):
 if Region.wanted o (yielded ops a.tmps)then o.quiet P a C K else K b:=by
 refine qj f ⟨.agg cs,λw i=>aD ?_,p⟩;have h:=yieldsIf_load_mid (P:=P) (ops:=ops) (S:=C) (op:=o) (a:=a) f e x j g c k cs.toList d (λw i=>hS w i) l m (ek n);rcases h with⟨_,h⟩|⟨h,_⟩
 .simpa using h w i
 .rw[f]at h;cases h
end Go.Spk
namespace Go.Proofs.P
attribute [local go_sem ↓] Go.wp_at_zero Go.wp_at_succ
theorem ZN{p:bB}(h:1<=p.size):¬p.toList= []:=λe=>by
 rw[nM]at e;have a:bI p= []:=by unfold bI;rw[e];rfl
 rw[<-aj,a]at h;exact absurd h an
theorem VT(b:Bool)(k:Nat):(4:Int)+ -((((m8 b:Nat):Int)+((k:Int)+1)+4) %8) %8=(oY b k:Nat):=by
 unfold oY
 push_cast
 omega
end Go.Proofs.P
namespace Go.Proofs.P
attribute [local go_sem ↓] Go.wp_at_zero Go.wp_at_succ
theorem oF(s:bB)(t:fg)(v:cH)(w:ay):
 Calls prog 108 #[.string s,.iface t v] w λe a=>e= .returned (.iface 82 (.pointer (some ⟨w.heap.size,0,none⟩)))/\a=w.alloc (.cells #[.string s,.iface t v] 86):=by
 go_enter func108,ntmps108
 go_wp2_with fail
 go_ret
 exact⟨rfl,rfl⟩
def Gd(b:Bool)(a:List Int)(n:Nat)(size s:ByteArray)(c d:Value):Value:=
 .tuple #[.string (strOfNums (if b then sY a (mB n) (bI s) (bI size)else bI s)),if b then EP (sX a (mB n) (bI s) (bI size)) c d else .nilIface]
def zX:ByteArray:=⟨#[112,97,99,107,101,116]⟩
def dl(p:Nat):Value:= .iface 82 (.pointer (some ⟨p,0,none⟩))
end Go.Proofs.P
namespace Go.Proofs.P
attribute [local go_sem ↓] Go.wp_at_zero Go.wp_at_succ
structure Er4(w:World)(E:Nat->Addr):Prop where
 var:∀i,1<=i->i<=4->w.cell? ⟨Cn i,0,none⟩=some (bM (E i))
theorem Er4.below{w w'}{E}(h:Er4 w E)(c:Below w.heap.size w w'):Er4 w' E:=
 ⟨λi a b=>(c.cell (aH (h.var i a b))).trans (h.var i a b)⟩
theorem Ho(s:bB):ph (bI s) 4=((q9 (bI s):Nat):Int)/\q9 (bI s)<4294967296:=by
 have h:=Ff (bI s) (c8 s) 4;have a:(256:Int)^4=4294967296:=an;unfold q9;omega
end Go.Proofs.P
namespace Go.Proofs.P
attribute [local go_sem ↓] Go.wp_at_zero Go.wp_at_succ
theorem Uh(b:Bool)(a:aR)(n m:Nat)(s:bB)(c d:cH):
 Gd b a n (s.extract 0 4) (s.extract 4 (se b m)) c d= .tuple #[.string (strOfNums (oR b a n m (bI s))),EP (na b a n m (bI s)) c d]:=by
 have e:bI (s.extract 0 4)=(bI s).take 4:=by rw[oh];rfl
 have f:bI (s.extract 4 (se b m))=CG b m (bI s):=by rw[oh];unfold CG se;congr 1;omega
 unfold Gd oR na;rw[e,f];cases b
 .simp[EP]
 .simp
theorem PR(b:Bool)(c:aR)(n m:Nat)(s:bB):∀z∈oR b c n m (bI s),0<=z/\z<=255:=by
 unfold oR;cases b
 .intro z a;simp only[Bool.false_eq_true,if_false]at a;unfold CG at a;exact cY (c8 s) z (ie (dW a))
 .simp only[if_true];unfold sY
  split
  .intro z a;cases a
  .split
   .exact BP _ _ _ _
   .intro z a;cases a
theorem Nw(b:Bool)(d:aR)(n m:Nat)(s:bB)(a:na b d n m (bI s)=0)(g:¬s.size<se b m):(oR b d n m (bI s)).length=m:=by
 have e:(CG b m (bI s)).length=m+vQ b:=by
  unfold CG se at*;rw[aO,bK,aj];omega
 unfold oR;unfold na at a;cases b
 .simp only[Bool.false_eq_true,if_false];rw[e];rfl
 .simp only[if_true]at a⊢;unfold sX at a;unfold sY
  split at a
  .cases a
  .rename_i c;rw[aq c]
   split at a
   .rename_i f;rw[aJ f,hI,aO,e];have:vQ true=16:=rfl;omega
   .cases a
theorem Zm(R:aR)(a:∀z∈R,0<=z/\z<=255)(j:Nat):(strOfNums R).extract 1 j=strOfNums ((R.take j).drop 1):=by
 apply mv;rw[oh,cJ a,cJ (λz b=>a z (dW (ie b))),List.drop_take]
end Go.Proofs.P
