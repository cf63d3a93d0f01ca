/- Lemmas on which SessionPins rests. -/
import Derived.Test.YtcjcibnggioknaaGreatDoorZ19
set_option maxRecDepth 100000
set_option maxHeartbeats 40000000
set_option linter.unusedVariables false
open Go.RowKit Go.Spk
open Go.Proofs.Tryz
namespace Go.Proofs.P
theorem ZJ(w:ay):(Instr.index 70 (.agg #[.string ⟨#[32,48]⟩,.string ⟨#[32,49]⟩]) (.int .i64 0)).run prog w= .ok (.string ⟨#[32,48]⟩) w:=by show _=_;kernel_rfl
theorem ZK(w:ay):(Instr.index 70 (.agg #[.string ⟨#[32,48]⟩,.string ⟨#[32,49]⟩]) (.int .i64 1)).run prog w= .ok (.string ⟨#[32,49]⟩) w:=by show _=_;kernel_rfl
theorem VV(g i:Nat)(f:i<8)(w:ay):
 Calls prog 181 #[.pointer (some ⟨g,0,none⟩),.int .i64 (i:Nat)] w λe a=> ∃s,e= .returned (.tuple #[.pointer (some ⟨g,i,none⟩),.string s])/\Below w.heap.size w a:=by
 have b:i=0\/i=1\/i=2\/i=3\/i=4\/i=5\/i=6\/i=7:=af;rcases b with rfl|rfl|rfl|rfl|rfl|rfl|rfl|rfl
 all_goals
  go_enter func181,ntmps181
  have c:=ZJ;have d:=ZK
  go_wp2_with fail
  exact cI (results_tmp2 (t:=4) (u:=5) rfl _ _ _) rfl ⟨_,rfl,aw _ _⟩
theorem AP(B:Nat)(k1 y:Int)(q vs r n d f i j:cH)(m:de)(w:ay)(hm:kb B w q vs r n m)(z:B<=w.heap.size)(h1:m.B= [false]):
 Calls prog 183 #[.agg (dP k1 q vs r n),.agg (dP y d f i j)] w λe D=>e= .returned (.bool false)/\Below w.heap.size w D:=by
 have s:=hm.B;rw[h1]at s
 obtain⟨g,o,c,k,E,A,a⟩:∃g o c,n= .slice (some ⟨g,o,none⟩) 1 c/\1<=c/\g<w.heap.size/\w.cell? ⟨g,o,none⟩=some (.bool false):=by
  rcases s with⟨h,_⟩|⟨g,o,c,F,G,H,I⟩
  .exact absurd h bj
  .exact⟨g,o,c,F,G,aL H z,I 0 (.bool false) rfl⟩
 have t:=aa k;have J:=aa a;have K:=aa A;obtain⟨L,b⟩:=aP (dP k1 q vs r n);obtain⟨P,l⟩:=aP (dP y d f i j);have u:=aa b;rw[<-b,<-l];clear b l k a A s hm h1 z
 go_enter func183,ntmps183
 go_upto_region 1 with(fail)
 refine aU (λW=>Below w.heap.size w W/\Whole W w.heap.size 106 L) ⟨by go_grown,(Whole.new rfl rfl).alloc _⟩ ?_;intro v ⟨x,C⟩;have M:=aa x;have c4:v.cell? ⟨w.heap.size,4,none⟩=some (.slice (some ⟨g,o,none⟩) 1 c):=by rw[C.at_,u.o,<-t.o];rfl
 have N:v.cell? ⟨g,o+0,none⟩=some (.bool false):=(x.cell (p:=⟨g,o,none⟩) K.o).trans J.o;have O:v.cell? ⟨g,o,none⟩=some (.bool false):=N;clear x C
 go_wp2_with fail
 go_ret
 exact⟨rfl,M.o⟩
def aaL:ByteArray:=⟨#[105,109,112,108,105,101,100]⟩
def EE(c s:de)(i:Nat):Option ByteArray:=if(i=4\/i=5)/\o0 c s (i -2)=some Jg then some aaL else o0 c s i
theorem zJ(c s:de){i:Nat}(a:i≠4)(b:i≠5):EE c s i=o0 c s i:=by
 unfold EE;rw[aq (λh=>h.1.elim a b)]
theorem Jn{c s:de}{i:Nat}(q:i<8)(h:EE c s i=none):io c s=none:=by
 by_cases k:i=4
 .subst k;unfold EE at h
  split at h
  .cases h
  .rename_i d;unfold io
   split
   .rename_i a b _ _ f _ _ _;rw[aq (λg=>(g.1.elim (λe=>d ⟨.inl rfl,by rw[<-e];exact f⟩) (λe=>by rw[h]at e;cases e)))]
   .rfl
 .by_cases l:i=5
  .subst l;unfold EE at h
   split at h
   .cases h
   .rename_i d;unfold io
    split
    .rename_i a b _ _ _ j _ _;rw[aq (λg=>(g.2.elim (λe=>d ⟨.inr rfl,by rw[<-e];exact j⟩) (λe=>by rw[h]at e;cases e)))]
    .rfl
  .rw[zJ c s k l]at h;unfold io
   split
   .rename_i a b m n f j o p;exfalso;have:i=0\/i=1\/i=2\/i=3\/i=6\/i=7:=af;rcases this with rfl|rfl|rfl|rfl|rfl|rfl
    .rw[m]at h;cases h
    .rw[n]at h;cases h
    .rw[f]at h;cases h
    .rw[j]at h;cases h
    .rw[o]at h;cases h
    .rw[p]at h;cases h
   .rfl
theorem Jo{c s:de}(h:∀i,i<8->(EE c s i).isSome=true):io c s=some (pd c s,pd s c):=by
 have g:∀i,i≠4->i≠5->i<8-> ∃x,o0 c s i=some x:=λi a b k=>by
  have:=h i k;rw[zJ c s a b]at this;exact Option.isSome_iff_exists.1 this
 obtain⟨r,l⟩:=g 0 an an an;obtain⟨t,m⟩:=g 1 an an an;obtain⟨n,f⟩:=g 2 an an an;obtain⟨o,j⟩:=g 3 an an an;obtain⟨u,p⟩:=g 6 an an an;obtain⟨v,q⟩:=g 7 an an an;have a:=h 4 an;have b:=h 5 an;unfold io;rw[l,m,f,j,p,q];dsimp only;rw[if_pos];constructor
 .by_cases e:n=Jg
  .exact .inl e
  .right
   unfold EE at a;rw[if_neg (λd=>e (by have:=d.2;rw[show 4 -2=2 from rfl,f]at this;injection this))]at a;exact a
 .by_cases e:o=Jg
  .exact .inl e
  .right
   unfold EE at b;rw[if_neg (λd=>e (by have:=d.2;rw[show 5 -2=3 from rfl,j]at this;injection this))]at b;exact b
structure B9(c s:de)(k:Nat)(W:World)(gc:Nat):Prop where
 lt:∃cs:List ByteArray,cs.length=8/\Whole W gc 253 (cs.map Value.string++ [Value.bool false,Value.bool false]).toArray/\ ∀j,j<k-> ∃x,EE c s j=some x/\cs[j]?=some x
theorem B9.below{c s:de}{k:Nat}{W a:ay}{b:Nat}(h:B9 c s k W b)(e:Below W.heap.size W a):B9 c s k a b:=by
 obtain⟨f,g,d,i⟩:=h.lt;exact⟨f,g,d.below e d.inside,i⟩
theorem B9.cell{c s:de}{k j:Nat}{W:ay}{a:Nat}(h:B9 c s k W a)(d:j<k):∃x,EE c s j=some x/\W.cell? ⟨a,j,none⟩=some (.string x):=by
 obtain⟨e,m,f,g⟩:=h.lt;obtain⟨x,i,b⟩:=g j d;refine⟨x,i,?_⟩;have l:j<e.length:=(aI.1 b).1;rw[f.at_,eg,jb (by rw[aM];exact l),bi,b]
 rfl
theorem B9.any{c s:de}{k i:Nat}{W:ay}{a:Nat}(h:B9 c s k W a)(b:i<8):∃x,W.cell? ⟨a,i,none⟩=some (.string x):=by
 obtain⟨d,e,f,j⟩:=h.lt;obtain⟨x,g⟩:∃x,d[i]?=some x:=⟨_,aQ af⟩;refine⟨x,?_⟩;rw[f.at_,eg,jb (by rw[aM,e];exact b),bi,g]
 rfl
theorem B9.put{c s:de}{k:Nat}{W:ay}{d:Nat}(h:B9 c s k W d)(i:k<8)(x:bB)(l:EE c s k=some x):B9 c s (k+1) (W.setCell ⟨d,k,none⟩ (.string x)) d:=by
 obtain⟨b,f,m,n⟩:=h.lt;have g:=m.stored k (.string x)
 have e:(b.map Value.string++ [Value.bool false,Value.bool false]).toArray.setIfInBounds k (.string x)=((b.set k x).map Value.string++ [Value.bool false,Value.bool false]).toArray:=by
  apply tr;rw[Array.toList_setIfInBounds];show(b.map Value.string++ [Value.bool false,Value.bool false]).set k (.string x)=_;rw[List.set_append_left _ _ (by rw[aM,f];exact i),List.map_set]
 rw[e]at g;refine⟨b.set k x,by rw[dx];exact f,g,λj q=> ?_⟩
 by_cases a:j=k
 .subst a;exact⟨x,l,by rw[List.getElem?_set_self af]⟩
 .obtain⟨y,o,p⟩:=n j af;exact⟨y,o,by rw[List.getElem?_set_ne (λe=>a e.symm)];exact p⟩
theorem aad{P:Nat->Prop}{w:ay}:∀{vs:gF} {L:acs} (h:sQ P w vs L) {i:Nat} {l:eL} (hl:L[i]?=some l),∃v,vs[i]?=some v/\iB P w v (l.map Value.string)
 | [],[],_,i,l,hl=>by simp at hl
 |v::r,x::s,h,0,l,hl=>by
  simp at hl;subst hl;exact⟨v,rfl,h.1⟩
 |v::r,x::s,h,i+1,l,hl=>by
  obtain⟨u,a,b⟩:=aad h.2 (i:=i) (l:=l) (ek hl);exact⟨u,by simpa using a,b⟩
 | [],_::_,h,_,_,_=>h.elim
 |_::_,[],h,_,_,_=>h.elim
theorem Xj{P:Nat->Prop}{w:World}:∀{vs:List Value} {L:List (List ByteArray)} (h:sQ P w vs L),vs.length=L.length
 | [],[],_=>rfl
 |v::r,x::s,h=>by simp[Xj h.2]
 | [],_::_,h=>h.elim
 |_::_,[],h=>h.elim
theorem IQ{P:Nat->Prop}{w:ay}{v:cH}{l:eL}(h:iB P w v (l.map Value.string)):ee w v l:=by
 rcases h with⟨h,A,c,rfl⟩|⟨g,o,c,a,b,i,d,e⟩
 .exact .inl ⟨by simpa using h,A,c,rfl⟩
 .rw[aM]at a b;exact .inr ⟨g,o,c,a,b,d,λj x f=>e j _ (by rw[bi,f];rfl)⟩
structure XX(m:de):Prop where
 kind:m.kind=20
 wf:Cb m
 n10:m.N.length=10
 each:∀l∈m.N,l.length<=1000000
theorem tJ:∀l:List ByteArray,l.length<=(ei l).size+1
 | []=>by simp
 | [x]=>by simp
 |x::y::r=>by
  have h:=tJ (y::r);have e:=sy x y r;have a:=aA List.length e;rw[aj,am,fw,aj,aj]at a;simp only[List.length_cons]at h⊢;omega
theorem XX.XJ{m:de}(p:m.kind=20)(h:Cb m):XX m:=by
 obtain⟨f,i,F⟩:=h;rw[p]at i
 have q:f=⟨#[99,110,110,110,110,110,110,110,110,110,110,98,117]⟩:=by
  have:dh 20=some ⟨#[99,110,110,110,110,110,110,110,110,110,110,98,117]⟩:=an;rw[this]at i;injection i with i;exact i.symm
 have h':Cb m:=⟨f,by rw[p];exact i,F⟩;subst q;obtain⟨k,U,S,N,B⟩:=m;have r:I7 [99,110,110,110,110,110,110,110,110,110,110,98,117] ⟨k,U,S,N,B⟩:=F;obtain⟨⟨s0,r0,e0,_⟩,⟨G,H,s,_,z0⟩,⟨I,J,t,_,z1⟩,⟨K,L,u,_,z2⟩,⟨M,O,v,_,z3⟩,⟨P,Q,w,_,z4⟩,⟨R,V,x,_,z5⟩,⟨W,X,y,_,z6⟩,⟨Y,Z,z,_,z7⟩,⟨l8,n8,A,_,z8⟩,⟨l9,n9,C,_,z9⟩,⟨b0,rb,eb⟩,⟨u0,ru,eu,_⟩,q1,q2,q3,q4⟩:=r
 have hN:N= [G,I,K,M,P,R,W,Y,l8,l9]:=by
  have a:N=G::H:=s;have b:H=I::J:=by have:=t;rw[show(dM 110 (dM 99 ⟨k,U,S,N,B⟩)).N=N.tail from rfl,a]at this;exact this
  have c:J=K::L:=by have:=u;rw[show(dM 110 (dM 110 (dM 99 ⟨k,U,S,N,B⟩))).N=N.tail.tail from rfl,a,b]at this;exact this
  have d:L=M::O:=by have:=v;rw[show(dM 110 (dM 110 (dM 110 (dM 99 ⟨k,U,S,N,B⟩)))).N=N.tail.tail.tail from rfl,a,b,c]at this;exact this
  have e:O=P::Q:=by have:=w;rw[show(dM 110 (dM 110 (dM 110 (dM 110 (dM 99 ⟨k,U,S,N,B⟩))))).N=N.tail.tail.tail.tail from rfl,a,b,c,d]at this;exact this
  have j:Q=R::V:=by have:=x;rw[show(dM 110 (dM 110 (dM 110 (dM 110 (dM 110 (dM 99 ⟨k,U,S,N,B⟩)))))).N=N.tail.tail.tail.tail.tail from rfl,a,b,c,d,e]at this;exact this
  have n:V=W::X:=by have:=y;rw[show(dM 110 (dM 110 (dM 110 (dM 110 (dM 110 (dM 110 (dM 99 ⟨k,U,S,N,B⟩))))))).N=N.tail.tail.tail.tail.tail.tail from rfl,a,b,c,d,e,j]at this;exact this
  have o:X=Y::Z:=by have:=z;rw[show(dM 110 (dM 110 (dM 110 (dM 110 (dM 110 (dM 110 (dM 110 (dM 99 ⟨k,U,S,N,B⟩)))))))).N=N.tail.tail.tail.tail.tail.tail.tail from rfl,a,b,c,d,e,j,n]at this;exact this
  have D:Z=l8::n8:=by have:=A;rw[show(dM 110 (dM 110 (dM 110 (dM 110 (dM 110 (dM 110 (dM 110 (dM 110 (dM 99 ⟨k,U,S,N,B⟩))))))))).N=N.tail.tail.tail.tail.tail.tail.tail.tail from rfl,a,b,c,d,e,j,n,o]at this;exact this
  have a9:n8=l9::n9:=by have:=C;rw[show(dM 110 (dM 110 (dM 110 (dM 110 (dM 110 (dM 110 (dM 110 (dM 110 (dM 110 (dM 99 ⟨k,U,S,N,B⟩)))))))))).N=N.tail.tail.tail.tail.tail.tail.tail.tail.tail from rfl,a,b,c,d,e,j,n,o,D]at this;exact this
  have E:n9= []:=by have:=q3;rw[show(dM 117 (dM 98 (dM 110 (dM 110 (dM 110 (dM 110 (dM 110 (dM 110 (dM 110 (dM 110 (dM 110 (dM 110 (dM 99 ⟨k,U,S,N,B⟩))))))))))))).N=N.tail.tail.tail.tail.tail.tail.tail.tail.tail.tail from rfl,a,b,c,d,e,j,n,o,D,a9]at this;exact this
  rw[a,b,c,d,e,j,n,o,D,a9,E]
 refine⟨p,h',by show N.length=10;rw[hN];rfl,λl hl=> ?_⟩;have g:l∈N:=hl;rw[hN]at g
 have hz:(ei l).size<=4096:=by
  simp only[List.mem_cons,List.mem_nil_iff,or_false]at g;rcases g with rfl|rfl|rfl|rfl|rfl|rfl|rfl|rfl|rfl|rfl
  .exact z0
  .exact z1
  .exact z2
  .exact z3
  .exact z4
  .exact z5
  .exact z6
  .exact z7
  .exact z8
  .exact z9
 have:=tJ l;omega
theorem xk(sd m:aR):(qX sd m).length=64:=by
 unfold qX;dsimp only;rw[List.length_append,iW,fP]
theorem Eb(sd m:aR):∀z∈qX sd m,0<=z/\z<=255:=λz a=>by
 unfold qX at a;dsimp only at a;rcases List.mem_append.1 a with h|h
 .exact sg _ z h
 .exact Al _ _ z h
structure Fix where
 ml:ByteArray
 lT:ByteArray
 kJ:ByteArray
 kU:ByteArray
 host:List Int
 BT:List Int
 AB:List Int
 vy:List Int
 yO:List Int
 pC:List Int
 pS:List Int
 shr:Nat
 sec:List Int
 key:List Int
 hash:List Int
 sig:List Int
namespace Fix
def wL(f:Fix):ByteArray:=fH++f.ml
def wM(f:Fix):ByteArray:=fH++f.lT
def vC(f:Fix):ByteArray:=db (iZ f.BT)
def vW(f:Fix):ByteArray:=db (iZ f.AB)
def told(f:Fix):List Int:=cG f.wL++cG f.wM++cG f.vC++cG f.vW++cG (dB f.key)++gN f.pC++gN f.pS++gN (vY f.sec)
def k0(f:Fix):List Int:=iu f.sec f.hash f.hash 67
def k1(f:Fix):List Int:=iu f.sec f.hash f.hash 68
def tn(f:Fix):de:=⟨30,[],[strOfNums f.pC],[],[]⟩
def zx(f:Fix):de:=⟨31,[],[dB f.key,strOfNums f.pS,dB f.sig],[],[]⟩
end Fix
def m21:de:=⟨21,[],[],[],[]⟩
structure bw(f:Fix):Prop where
 XH:∀h:pV,kv h f.wL=({h with peer:=f.wL},none)
 XI:∀h:pV,kv h f.wM=({h with peer:=f.wM},none)
 sC:f.ml.size<=40
 sS:f.lT.size<=40
 lfC:(10:UInt8)∉f.wL.data.toList
 lfS:(10:UInt8)∉f.wM.data.toList
 BT:eP (bI f.kJ) (oG++ [0]) 16=f.BT
 AB:eP (bI f.kU) (oG++ [0]) 16=f.AB
 vy:eP (bI f.kJ) (mC++ [0]) 32=f.vy
 yO:eP (bI f.kU) (mC++ [0]) 32=f.yO
 pC:mJ f.vy=f.pC
 pS:mJ f.yO=f.pS
 zC:di f.vy f.pS=f.shr
 IJ:di f.yO f.pC=f.shr
 ne:f.shr≠0
 sec:eE f.shr=f.sec
 key:lX f.host=f.key
 hash:mj false f.told=f.hash
 sig:qX f.host f.hash=f.sig
 fits:je f.key f.hash f.sig=true
section
variable {f:Fix}
theorem bw.NK(h:bw f):f.BT.length=16:=by rw[<-h.BT];unfold eP;rw[aO,np];rfl
theorem bw.NL(h:bw f):f.AB.length=16:=by rw[<-h.AB];unfold eP;rw[aO,np];rfl
theorem Mx(n:Nat):∀z∈eE n,0<=z/\z<=255:=oV n
theorem bw.pCl(h:bw f):f.pC.length=32:=by rw[<-h.pC];exact m9 _
theorem bw.Z3(h:bw f):f.pS.length=32:=by rw[<-h.pS];exact m9 _
theorem bw.pCm(h:bw f):∀z∈f.pC,0<=z/\z<=255:=by rw[<-h.pC];exact Mx _
theorem bw.pSm(h:bw f):∀z∈f.pS,0<=z/\z<=255:=by rw[<-h.pS];exact Mx _
theorem bw.Cs(h:bw f):f.key.length=32:=by rw[<-h.key];exact mN _
theorem bw.Kh(h:bw f):∀z∈f.key,0<=z/\z<=255:=by rw[<-h.key];exact A6 _
theorem bw.IK(h:bw f):f.sig.length=64:=by rw[<-h.sig];exact xk _ _
theorem bw.OR(h:bw f):∀z∈f.sig,0<=z/\z<=255:=by rw[<-h.sig];exact Eb _ _
theorem eX{l:aR}(n:Nat)(hl:l.length=n):(dB l).size=19+n:=by
 unfold dB;rw[bG,am,eQ];unfold gN;rw[am,eW,hl];show 4+11+(4+n)=19+n;omega
theorem ko{l:aR}(n k:Nat)(hl:l.length=n)(hm:∀z∈l,0<=z/\z<=255)(j:n<=1000):fy (dB l) n k= .inl (strOfNums l):=by
 have b:=eX n hl
 have c:bI (dB l)=cG mM++cG (strOfNums l):=by
  unfold dB
  rw[cJ (λz b=>by
   rcases List.mem_append.1 b with h|h
   .exact lN _ z h
   .unfold gN at h;rcases List.mem_append.1 h with h|h
    .exact qK _ _ _ z h
    .exact hm z h)]
  unfold gN;rw[show cG (strOfNums l)=qJ l.length 4 4++l by unfold cG;rw[cJ hm,bG]]
 obtain⟨m,d,e⟩:=xr (dA 1) (dA 3) (x:=mM) (dB l).size af (by show 11<=_;omega) c;obtain⟨a,f,g⟩:=xr (dA 1) (dA 3) (x:=strOfNums l) (rest:= []) (dB l).size af (by rw[bG];omega) (by rw[e,List.append_nil]);have i:a.size=0:=by rw[<-aj,g];rfl
 unfold fy;dsimp only;rw[d];dsimp only;rw[f];dsimp only;rw[show wy (dA 2) (.ok a)= .ok a from if_pos i];dsimp only;rw[if_pos ⟨rfl,by rw[bG,hl]⟩]
theorem Tq:Cb m21:=⟨⟨#[]⟩,(show dh 21=_ from by decide),rfl,rfl,rfl,rfl⟩
theorem bw.abi(h:bw f):Cb f.tn:=by
 refine⟨⟨#[115]⟩,(show dh 30=_ from by decide),?_⟩;show I7 [115] f.tn;exact⟨⟨_,_,rfl,by rw[bG,h.pCl];decide⟩,rfl,rfl,rfl,rfl⟩
theorem bw.WT(h:bw f):Cb f.zx:=by
 refine⟨⟨#[115,115,115]⟩,(show dh 31=_ from by decide),?_⟩;show I7 [115,115,115] f.zx;exact⟨⟨_,_,rfl,by rw[eX 32 h.Cs];decide⟩,⟨_,_,rfl,by rw[bG,h.Z3];decide⟩,⟨_,_,rfl,by rw[eX 64 h.IK];decide⟩,rfl,rfl,rfl,rfl⟩
theorem bw.z30(h:bw f):(db f.tn).size=37:=by
 rw[<-aj,pB (m:=f.tn) (f:=⟨#[115]⟩) (show dh 30=_ from by decide)];show([(30:Int)]++(cG (strOfNums f.pC)++ [])).length=37;simp only[List.length_append,eQ,bG,h.pCl,List.length_cons,List.length_nil]
theorem bw.z31(h:bw f):(db f.zx).size=179:=by
 rw[<-aj,pB (m:=f.zx) (f:=⟨#[115,115,115]⟩) (show dh 31=_ from by decide)];show([(31:Int)]++(cG (dB f.key)++(cG (strOfNums f.pS)++(cG (dB f.sig)++ [])))).length=179;simp only[List.length_append,eQ,bG,h.Z3,eX 32 h.Cs,eX 64 h.IK,List.length_cons,List.length_nil]
theorem z21:(db m21).size=1:=by
 rw[<-aj,pB (m:=m21) (f:=⟨#[]⟩) (show dh 21=_ from by decide)]
 rfl
end
namespace Fix
def abN(f:Fix):CU:={ti with xL:=f.vC,iD:=true}
def Az(f:Fix):CU:={ti with xL:=f.vC,xM:=f.vW,draw:=f.vy,asked:=true,l0:=f.wL,l1:=f.wM,i0:=f.vC,i1:=f.vW,p0:=f.pC,iD:=true,eN:=true}
def aas(f:Fix):CU:={f.Az with p1:=f.pS,sec:=f.sec,hb:=dB f.key,done:=true,key:=f.key,hash:=f.hash,k0:=f.k0,k1:=f.k1,yC:=true}
def c0(f:Fix)(a:List Int)(W:List ByteArray):aX:=⟨true,f.ml,f.kJ,av,a,0,⟨⟨#[]⟩,16,⟨#[]⟩,none⟩,f.wL,1,false,av,0,false,av,⟨#[]⟩,⟨#[]⟩,f.abN,0,av,av,W,1,false⟩
def ch(f:Fix)(a:List Int)(W:List ByteArray):aX:={f.c0 a W with eB:=⟨⟨#[]⟩,16,f.wM,none⟩}
def c1(f:Fix)(a:List Int)(W:List ByteArray):aX:={f.ch a W with rn:=1,on:=f.Az,wn:=2,since:=2}
def c2(f:Fix)(a:List Int)(W:List ByteArray):aX:={f.ch a W with rn:=2,on:=f.aas,wn:=3,since:=3,wb:=true,wk:=f.k0}
def c3(f:Fix)(a:List Int)(n:Nat):aX:={f.ch a []with rn:=3,rb:=true,rk:=f.k1,on:=ti,wn:=3+n,since:=n,wb:=true,wk:=f.k0,c7:=1,id:=f.hash,key:=f.key}
def ach(f:Fix):CU:={ti with xM:=f.vW,iD:=true}
def Ll(f:Fix):CU:={ti with xL:=f.vC,xM:=f.vW,draw:=f.yO,l0:=f.wL,l1:=f.wM,i0:=f.vC,i1:=f.vW,p1:=f.pS,iD:=true,eN:=true}
def abb(f:Fix):CU:={f.Ll with p0:=f.pC,sec:=f.sec,hb:=dB f.key,done:=true,key:=f.key,hash:=f.hash,k0:=f.k0,k1:=f.k1,yC:=true}
def s0(f:Fix):aX:=⟨false,f.lT,f.kU,f.host,av,0,⟨⟨#[]⟩,0,⟨#[]⟩,none⟩,f.wM,1,false,av,0,false,av,⟨#[]⟩,⟨#[]⟩,f.ach,0,av,av,[],1,false⟩
def sh(f:Fix):aX:={f.s0 with eB:=⟨⟨#[]⟩,0,f.wL,none⟩}
def s1(f:Fix):aX:={f.sh with rn:=1,on:=f.Ll}
def s2(f:Fix):aX:={f.sh with rn:=2,on:=f.abb,wn:=3,since:=3,wb:=true,wk:=f.k1}
def s3(f:Fix)(n:Nat):aX:={f.sh with rn:=3+n,rb:=true,rk:=f.k0,on:=ti,wn:=3,since:=0,wb:=true,wk:=f.k1,c7:=1,id:=f.hash,key:=f.key}
end Fix
def ka(k:List Int):Nat->List ByteArray->List Int
 |_,[]=> []
 |n,p::r=>aV true k n (bI p)++ka k (n+1) r
section
variable {f:Fix}
theorem bw.ex2(h:bw f):fQ {f.Az with p1:=f.pS,sec:=f.sec,hb:=dB f.key}=f.hash:=h.hash
theorem bw.aaH(h:bw f):fQ {f.Ll with p0:=f.pC,sec:=f.sec,hb:=dB f.key}=f.hash:=h.hash
theorem zM{s:aX}{sd:bB}(h1:s.pm=sd)(a:s.c7=0)(l:aR)(n:Nat):nQ s l n=eP (bI sd) (l++ [0]) n:=by
 unfold nQ;rw[h1,a,show(((0:Nat):Int) %256)=0 by decide]
theorem Ku(h:bw f)(a:aR):oA true f.ml f.kJ av a 0={f.c0 a []with out:=f.wL++iL++strOfNums (aV false av 0 (bI f.vC))}:=by
 unfold oA km;dsimp only;rw[zM (sd:=f.kJ) rfl rfl,h.BT]
 rfl
theorem Kv(h:bw f):oA false f.lT f.kU f.host av 0={f.s0 with out:=f.wM++iL++strOfNums (aV false av 0 (bI f.vW))}:=by
 unfold oA km;dsimp only;rw[zM (sd:=f.kU) rfl rfl,h.AB]
 rfl
theorem nF{s:aX}{m:de}{p:bB}(a:s.on.skip=false)(b:fk p= .inl m):dF s p=
 if m.kind=1 then(s,false,some 17)
  else if m.kind=2\/m.kind=3\/m.kind=4 then(s,false,none)
  else if m.kind=20 then((jj s m).1,false,(jj s m).2)
  else if m.kind=30 then((fE s m).1,false,(fE s m).2)
  else if m.kind=31 then((fV s m).1,false,(fV s m).2)
  else if m.kind=21 then((nG s).1,false,(nG s).2)
  else if s.c7=0\/s.on.eN=true then(s,false,some 5)
  else(s,true,none):=by
 unfold dF;rw[a,b]
 rfl
theorem Mr(s:aX)(m own:de)(a b:Bool)(c:s.cl=true)(d:s.on.eN=false)(e:s.on.iD=true)(f:fk s.on.xL= .inl own)(g:io own m=some (a,b)):
 jj s m=(l6 {s with on:={s.on with xM:=db m,eN:=true,skip:=b,draw:=nQ s mC 32,asked:=true,l0:=s.line,l1:=s.eB.peer,i0:=s.on.xL,i1:=db m,hb:=⟨#[]⟩,p0:=mJ (nQ s mC 32),p1:=av,sec:=av}} ⟨30,[],[strOfNums (mJ (nQ s mC 32))],[],[]⟩,none):=by
 unfold jj;simp only[d,c,e,f,g,if_true,if_false,Bool.false_eq_true]
 rfl
theorem Ms(s:aX)(m own:de)(a b:Bool)(c:s.cl=false)(d:s.on.eN=false)(e:s.on.iD=true)(f:fk s.on.xM= .inl own)(g:io m own=some (a,b)):
 jj s m=({s with on:={s.on with xL:=db m,eN:=true,skip:=a,draw:=nQ s mC 32,l0:=s.eB.peer,l1:=s.line,i0:=db m,i1:=s.on.xM,hb:=⟨#[]⟩,p0:=av,p1:=mJ (nQ s mC 32),sec:=av}},none):=by
 unfold jj;simp only[d,c,e,f,g,if_true,if_false,Bool.false_eq_true]
 rfl
theorem Xy(h:bw f)(a:aR)(W:eL):Ev (f.ch a W) (bI f.vW) false (strOfNums (aV false av 1 (bI (db f.tn)))) (f.c1 a W):=by
 have c:=rM h.NL;refine⟨c8 _,by rw[aj];unfold Fix.vW;omega,by rw[aj];unfold Fix.vW;omega,⟨rfl,?_,rfl⟩,λx o=> ?_⟩
 .show(fH++f.lT).size≠0;rw[aN];show 8+_≠0;omega
 .rw[fq];refine(nF (m:=iZ f.AB) rfl (dZ (oJ h.NL))).trans ?_;rw[show(iZ f.AB).kind=20 from rfl,aq an,aq an,aJ rfl]
  have b:jj {f.ch a W with rn:=(f.ch a W).rn+1,rs:=x,out:=o} (iZ f.AB)=({f.c1 a W with rs:=x,out:=o++strOfNums (aV false av 1 (bI (db f.tn)))},none):=by
   rw[Mr {f.ch a W with rn:=(f.ch a W).rn+1,rs:=x,out:=o} (iZ f.AB) (iZ f.BT) false false rfl rfl rfl (dZ (oJ h.NK)) (C8 _ _)];rw[zM (sd:=f.kJ) rfl rfl,h.vy,h.pC]
   rfl
  rw[b]
end
attribute [local go_sem ↓] Ag Ah Go.wp_at_zero Go.wp_at_succ
attribute [local go_sem] cr cD
def Gc(E:Nat->Addr)(w0:World)(r:ByteArray ⊕ Nat)(e:Ending)(w:World):Prop:=match r with
 | .inl x=>e= .returned (.tuple #[.agg (ai .u8 (bI x)),.nilIface])
 | .inr k=> ∃v,e= .returned (.tuple #[.agg (ai .u8 (List.replicate 64 0)),v])/\Xi w0 w E ⟨#[115,105,103,110,97,116,117,114,101]⟩ k v
theorem JD(E:gn)(s:bB)(M:s.size<=1000000)(w:ay)(B:ts w E)(N:30<=w.heap.size):
 Calls prog 158 #[.string s] w λe O=>Gc E w (fy s 64 10) e O/\Below w.heap.size w O:=by
 have i:=aa (λW (l:Below w.heap.size w W)=>RN E s M 64 10 an W (B.below l) (Nat.le_trans N l.size));have Q:=aa (B.var 10 an)
 have n:Hid (∀x,fy s 64 10= .inl x->x.size=64):=aa (λx f=>by
  unfold fy at f;dsimp only at f
  split at f
  .cases f
  .split at f
   .rename_i h;injection f with f;subst f;exact h.2
   .cases f)
 obtain⟨R,S⟩:=aP (fy s 64 10);rw[<-S]at i n⊢;clear S B M N
 go_enter func158,ntmps158
 go_upto_region 1 with(fail)
 refine aU (λW=>Below w.heap.size w W/\Whole W w.heap.size 97 (ai .u8 (List.replicate 64 0))) ⟨by go_grown,Whole.new rfl rfl⟩ ?_;intro U ⟨y,V⟩;have C:=aa y;have D:=aa V;have c1:U.cell? ⟨10,0,none⟩=some (bM (E 10)):=(y.cell (block_lt_of_cell Q.o)).trans Q.o;have F:=aa (i.o U y);unfold bM at c1 F;clear y V i
 go_wp2_with fail
 refine F.o.mono ?_;rintro e a ⟨rfl,l⟩;have z:=aa (C.o.trans (l.mono C.o.size));have G:=aa (D.o.below l D.o.inside);clear l F c1 C D;cases R with
 |inr H=>
  unfold Ie bM
  go_wp2_with fail
  refine(oF ⟨#[115,105,103,110,97,116,117,114,101]⟩ _ _ a).mono ?_;rintro e Y ⟨rfl,rfl⟩;have o:=G.o.alloc (.cells #[.string ⟨#[115,105,103,110,97,116,117,114,101]⟩,bM (E H)] 86);have b:=aa (z.o.alloc z.o.size (.cells #[.string ⟨#[115,105,103,110,97,116,117,114,101]⟩,bM (E H)] 86));have I:=aa (Whole.made a 86 #[.string ⟨#[115,105,103,110,97,116,117,114,101]⟩,bM (E H)]);have r:=aa (show w.heap.size<a.heap.size from G.o.inside);have g:=aa o;have t:=aa (show(#[ao,ao,ao,ao,ao,ao,ao,ao,ao,ao,ao,ao,ao,ao,ao,ao,ao,ao,ao,ao,ao,ao,ao,ao,ao,ao,ao,ao,ao,ao,ao,ao,ao,ao,ao,ao,ao,ao,ao,ao,ao,ao,ao,ao,ao,ao,ao,ao,ao,ao,ao,ao,ao,ao,ao,ao,ao,ao,ao,ao,ao,ao,ao,ao]:Array Value).all (·.oneCell')=true from iO .u8 (List.replicate 64 0));unfold bM at*;clear o
  go_wp2_with (refine wpList_store_row rfl 97 (.tmp 2) (.tmp 14) rfl w.heap.size #[ao,ao,ao,ao,ao,ao,ao,ao,ao,ao,ao,ao,ao,ao,ao,ao,ao,ao,ao,ao,ao,ao,ao,ao,ao,ao,ao,ao,ao,ao,ao,ao,ao,ao,ao,ao,ao,ao,ao,ao,ao,ao,ao,ao,ao,ao,ao,ao,ao,ao,ao,ao,ao,ao,ao,ao,ao,ao,ao,ao,ao,ao,ao,ao] rfl rfl 97 _ g.o yc rfl t.o ?_)
  refine bodyPost_ret (dN (p:=2) (u:=3) rfl _ _ w.heap.size 97 _ (0,0) _ rfl (Whole.row g.o) underlying97 rfl yc) rfl ⟨⟨_,rfl,_,rfl,Nat.le_of_lt r.o,I.o.only (bW _ _ _) (bE (Nat.ne_of_gt r.o))⟩,?_⟩;exact b.o.grown (bW _ _ _) b.o.size (λq v=>by injection v with v;omega)
 |inl x=>
  have j:x.size=64:=n.o x rfl;unfold Ie;obtain⟨L,A⟩:=aP (bI x);have J:=aa A;have c:=aa (by rw[A,aj,j]:L.length=64);have K:=run_bytes_of_string (P:=prog) a 9 99 5 x underlying9 underlying99 underlying5;have d:=rY.made (w:=a) rfl x (grownCap a x.size 0 5) 5;rw[<-A]at d;rw[j]at K d;have k:=(G.o.alloc (.cells (bytesRow x (grownCap a 64 0 5)) 5 ((bytesRow x (grownCap a 64 0 5)).size,(bytesRow x (grownCap a 64 0 5)).size+1))).drew;have b:=aa (bA (z.o.alloc z.o.size (.cells (bytesRow x (grownCap a 64 0 5)) 5 ((bytesRow x (grownCap a 64 0 5)).size,(bytesRow x (grownCap a 64 0 5)).size+1))) 1);have X:=run_arrayAt (P:=prog) (w:=(a.alloc (.cells (bytesRow x (grownCap a 64 0 5)) 5 ((bytesRow x (grownCap a 64 0 5)).size,(bytesRow x (grownCap a 64 0 5)).size+1))).drew) 97 5 64 (some ⟨a.heap.size,0,none⟩) 64 (grownCap a 64 0 5) underlying97 an;have Z:=(At.pi d).R (m:=64) (by rw[ag,c.o]);have r1:=(At.pi d).row (m:=64) (by rw[ag,c.o]);have l2:=(At.j k).R (m:=64) (by rw[ag];rfl);have ro:=bY .u8 L 64 c.o;have g:=aa k;clear d k A j
  go_wp2_with fail
  refine bodyPost_ret (dN (p:=2) (u:=3) rfl _ _ w.heap.size 97 (ai .u8 L) (0,0) _ rfl (g.o.fill (by rw[ag,ag,c.o];rfl)) underlying97 rfl (by rw[ag,c.o];exact yc)) rfl ⟨by rw[J.o];rfl,?_⟩;exact b.o.grown (aG _ _ _ _) b.o.size (λq v=>by injection v with v;omega)
end Go.Proofs.P
