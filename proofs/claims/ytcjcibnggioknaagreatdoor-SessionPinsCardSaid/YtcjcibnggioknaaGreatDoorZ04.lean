/- Lemmas on which SessionPins rests. -/
import Derived.Deep.DeepHandedRow
import Derived.IntWalk
import Derived.Laws.Bits64
import Derived.Laws.Concat
import Derived.Lib.AppendStr
import Derived.Lib.Builder
import Derived.Lib.Strings
import Derived.ProofKit
import Derived.Stop.ErrReads
import Derived.Stop.LaidErr
import Derived.Test.YtcjcibnggioknaaGreatDoorRows
import Derived.Test.YtcjcibnggioknaaGreatDoorZ02
import Derived.Test.YtcjcibnggioknaaGreatDoorZ03
set_option maxRecDepth 100000
set_option maxHeartbeats 40000000
set_option linter.unusedVariables false
open Go.RowKit Go.Spk
open Go.Proofs.Tryz
namespace Go.Proofs.P
theorem zI:(prog.info? 154).map (·.size)=some 2:=al
theorem Ug:liesAt prog prog.depth 154 (2/prog.cellsOf 154) 0 154 1=true:=al
theorem JL(b:Nat)(w:ay)(d:w.cell? ⟨b,0,none⟩=some (.pointer (some ⟨b,0,none⟩))):
 Calls prog 123 #[.pointer (some ⟨b,0,none⟩)] w λe a=>e= .returned (.tuple #[])/\a=w:=by
 obtain⟨j,c,_⟩:=bN.1 zI
 go_enter func123,ntmps123
 go_wp2
 rw[Lib.run_neq_ptr_same (P:=prog) (w:=w) _ underlying152 c]
 go_wp2
 go_end0
 exact⟨rfl,rfl⟩
theorem Gn(b:Nat)(w:ay)(h:w.cell? ⟨b,0,none⟩=some (.pointer none))(a:w.shape? b=some (154,2))(f:w.frozen? ⟨b,0,none⟩=false):
 Calls prog 123 #[.pointer (some ⟨b,0,none⟩)] w λe g=>e= .returned (.tuple #[])/\g=w.setCell ⟨b,0,none⟩ (.pointer (some ⟨b,0,none⟩)):=by
 obtain⟨j,d,c⟩:=bN.1 zI
 go_enter func123,ntmps123
 go_wp2
 rw[Lib.run_to_unsafe (P:=prog) (w:=w) ⟨b,0,none⟩ underlying152 underlying121 d (by rw[c];decide) a (Nat.zero_lt_succ 1)];simp only[Result.andThen];rw[tm]
 go_wp2
 rw[bJ func165 al al al (e:=Extern.AbiNoEscape.same) al];rw[Lib.run_noEscape];simp only[Result.andThen];rw[tm]
 go_wp2
 rw[Lib.run_from_unsafe (P:=prog) (w:=w) ⟨b,0,none⟩ underlying121 underlying152 d a Ug];simp only[Result.andThen];rw[tm]
 go_wp2
 go_end0
 exact⟨rfl,rfl⟩
theorem sR(B b:Nat)(c:gF)(w:ay)(h:Lib.IsBuilder 154 5 B b c w):
 Calls prog 123 #[.pointer (some ⟨b,0,none⟩)] w λe a=>e= .returned (.tuple #[])/\(Lib.BuilderAt 154 5 B b (.pointer (some ⟨b,0,none⟩)) c a/\w.grownBy a (some b)):=by
 rcases h with h|h
 .refine(Gn b w h.cell0 h.shape h.frozen0).mono ?_;rintro e a ⟨rfl,rfl⟩;exact⟨rfl,h.used _,aY _ rfl _⟩
 .refine(JL b w h.cell0).mono ?_;rintro e a ⟨rfl,rfl⟩;exact⟨rfl,h,ez _ _⟩
theorem infoByte:(prog.info? 5).map (λi=>(i.zero,i.size,i.bytes))=some (some (.int .u8 0),1,1):=al
theorem tc(B b:Nat)(o:gF)(c:Int)(w:ay)(h:Lib.IsBuilder 154 5 B b o w)(E:o.length+1<=140737488355328)(s:B<=w.heap.size):
 Calls prog 92 #[.pointer (some ⟨b,0,none⟩),.int .u8 c] w λe F=>e= .returned .nilIface/\(Lib.BuilderAt 154 5 B b (.pointer (some ⟨b,0,none⟩)) (o++ [.int .u8 c]) F/\Below B w F):=by
 obtain⟨I,J,x,y,z⟩:=info_parts infoByte
 go_enter func92,ntmps92
 go_wp2_with (go_at_call 123;refine(sR B b o _ h).mono ?_)
 rintro e w1 ⟨rfl,K,A⟩;have L:B<=b:=by rcases h with h|h<;>exact h.1
 have f:Below B w w1:=(aw B w).grown A s (λk q=>by injection q with q;omega);obtain⟨G,v,i,n,C⟩:=K;have c0:w1.cell? ⟨b,0,none⟩=some (.pointer (some ⟨b,0,none⟩)):=by rw[Lib.cell_of_heap i];rfl
 have c1:w1.cell? ⟨b,1,none⟩=some v:=by rw[Lib.cell_of_heap i];rfl
 go_wp2_with (at_builtin;refine wpList_append_own _ rfl _ _ 99 rfl B 5 I (.int .u8 0) 1 1 underlying99 J x y z rfl an _ _ _ rfl (n.alloc _) ⟨w1.heap.size,0,none⟩ 1 1 [.int .u8 c] rfl rfl ?c1 ?c2 ?c3 ?c4 ?c5 ?_)
 case c1=>
  intro j u r
  match j,r with
  |0,r=>simp at r;subst r;simp[Addr.add]
 case c2=>intro u H;simp at H;subst H;rfl
 case c3=>unfold maxLen;omega
 case c4=>omega
 case c5=>have:=f.size;simp;omega
 intro M w2 a d _;have D:b<w1.heap.size:=Whole.inside (t:=154) (cs:= #[.pointer (some ⟨b,0,none⟩),v]) i
 have l:w2.heap[b]?=some (.cells #[.pointer (some ⟨b,0,none⟩),v] 154 (0,0)):=by
  rw[d.block b (by simp;omega) (λe=>C e.symm),Lib.alloc_old w1 _ b D];exact i
 have P:w2.cell? ⟨b,0,none⟩=some (.pointer (some ⟨b,0,none⟩)):=by rw[Lib.cell_of_heap l];rfl
 have Q:w2.cell? ⟨b,1,none⟩=some v:=by rw[Lib.cell_of_heap l];rfl
 have R:w2.frozen? ⟨b,1,none⟩=false:=Lib.frozen_of_heap l 1
 obtain⟨g,m,rfl⟩:∃g m,M= .slice (some ⟨g,0,none⟩) (o.length+1) m:=by
  rcases a.2 with⟨_,S⟩|⟨g,m,N,O,_⟩
  .omega
  .exact⟨g,m,O⟩
 go_wp2
 go_ret
 refine⟨rfl,?_,?_⟩
 .exact Lib.BuilderAt.put (T:=154) (e:=5) G l (bs':=o++ [.int .u8 c]) (ek a) an
 .exact((f.alloc (dp f.size) _).grown d (by have:=f.size;simp;omega) (λk q=>(n.lt k q).1)).setCell (p:=⟨b,1,none⟩) G _
theorem xH(B b:Nat)(m:gF)(s:bB)(w:ay)(h:Lib.IsBuilder 154 5 B b m w)(C:m.length+s.size<=140737488355328)(o:B<=w.heap.size):
 Calls prog 97 #[.pointer (some ⟨b,0,none⟩),.string s] w λe D=>e= .returned (.tuple #[.int .i64 s.size,.nilIface])/\(Lib.BuilderAt 154 5 B b (.pointer (some ⟨b,0,none⟩)) (m++Lib.strCells s) D/\Below B w D):=by
 obtain⟨H,I,q,r,u⟩:=info_parts infoByte
 go_enter func97,ntmps97
 go_wp2_with (go_at_call 123;refine(sR B b m _ h).mono ?_)
 rintro e w1 ⟨rfl,J,x⟩;have K:B<=b:=by rcases h with h|h<;>exact h.1
 have j:Below B w w1:=(aw B w).grown x o (λk n=>by injection n with n;omega);obtain⟨E,v,d,i,y⟩:=J;have c0:w1.cell? ⟨b,0,none⟩=some (.pointer (some ⟨b,0,none⟩)):=by rw[Lib.cell_of_heap d];rfl
 have c1:w1.cell? ⟨b,1,none⟩=some v:=by rw[Lib.cell_of_heap d];rfl
 go_wp2_with (at_builtin;refine Lib.wpList_append_own_string _ rfl _ _ 99 9 rfl B 5 H underlying99 underlying9 I q r u _ _ _ rfl i s rfl ?c3 ?c4 ?c5 ?_)
 case c3=>unfold maxLen;omega
 case c4=>omega
 case c5=>have:=j.size;omega
 intro L w2 a c _;have z:b<w1.heap.size:=Whole.inside (t:=154) (cs:= #[.pointer (some ⟨b,0,none⟩),v]) d
 have f:w2.heap[b]?=some (.cells #[.pointer (some ⟨b,0,none⟩),v] 154 (0,0)):=by
  rw[c.block b z (λe=>y e.symm)];exact d
 have N:w2.cell? ⟨b,0,none⟩=some (.pointer (some ⟨b,0,none⟩)):=by rw[Lib.cell_of_heap f];rfl
 have O:w2.cell? ⟨b,1,none⟩=some v:=by rw[Lib.cell_of_heap f];rfl
 have P:w2.frozen? ⟨b,1,none⟩=false:=Lib.frozen_of_heap f 1
 obtain⟨F,G,l,rfl⟩:∃F G l,L= .slice F G l:=by
  rcases a.2 with⟨A,_⟩|⟨g,l,M,A,_⟩
  .exact⟨_,_,_,A⟩
  .exact⟨_,_,_,A⟩
 go_wp2
 go_ret2
 refine⟨rfl,?_,?_⟩
 .exact Lib.BuilderAt.put (T:=154) (e:=5) E f (bs':=m++Lib.strCells s) (by simpa[Lib.strCells_length]using a) an
 .exact(j.grown c (dp j.size) (λk n=>(i.lt k n).1)).setCell (p:=⟨b,1,none⟩) E _
theorem pD{xs:aR}(h:∀b∈xs,0<=b/\b<=255):xs.map (Value.int .u8)=Lib.byteCells (xs.map λn=>UInt8.ofNat n.toNat):=by
 unfold Lib.byteCells;rw[List.map_map];apply nO;intro b a;have:=h b a;simp;omega
theorem ey(w:ay)(g:Nat)(t:fg)(Z:aR)(n:Nat)(h:Whole w g t (ai .u8 Z))(a:Z.length=n):
 ∀q,q<n->w.cell? ⟨g,0+q,none⟩=some (.int .u8 (Z.getD q 0)):=λq b=>by
 rw[aW,h.at_,iP .u8 Z q af];rfl
theorem abk(a b:Int)(c:0<=a/\a<=255)(d:0<=b/\b<=255):x8 (x8 a b) b=a:=by
 obtain⟨m,rfl⟩:=au c.1;obtain⟨n,rfl⟩:=au d.1;unfold x8;have e:m<2^8:=af;have f:n<2^8:=af;have g:m^^^n<2^8:=o7 e f;rw[u8_xor_nat m n af af,u8_xor_nat (m^^^n) n af af,Nat.xor_assoc,Nat.xor_self,Nat.xor_zero]
theorem OT(b:aR)(a:Int)(c:aR)(n:Nat):0<=pK b a c n/\pK b a c n<=255:=by
 unfold pK;exact rH (Aw _ _ _) _
theorem BP(d:aR)(a:Int)(e ws:aR):∀b∈qt d a e ws,0<=b/\b<=255:=by
 intro b c;rw[Ty]at c;obtain⟨i,_,rfl⟩:=fZ.1 c;exact acr _ _
theorem O9(c:aR)(a:Int)(d ws:aR)(e:jr ws):qt c a d (qt c a d ws)=ws:=by
 refine sv (by rw[hI,hI]) λi b=> ?_;rw[hI,hI]at b;rw[Mt _ _ _ _ _ (by rw[hI];exact b),Mt _ _ _ _ _ b,abk _ _ (e i) (OT _ _ _ _)]
def KJ(n:Nat):Nat:=(16 -n %16) %16
def vc(ws:List Int):List Int:=ws++List.replicate (KJ ws.length) 0
theorem wD(ws:aR):(vc ws).length=ws.length+KJ ws.length:=by simp[vc]
theorem xX(ws:aR)(h:∀b∈ws,0<=b/\b<=255):∀b∈vc ws,0<=b/\b<=255:=by
 intro b c;rcases bT.1 c with a|a
 .exact h b a
 .rw[(List.mem_replicate.1 a).2];omega
def allI(ws a:List Int):List Int:=vc a++vc ws++jI a.length 8++jI ws.length 8
def rK(a b ws c:List Int):List Int:=Ir ((ol a 0 b).take 32) (allI ws c)
def mi(a b ws c:List Int):List Int:=qt a 1 b ws++rK a b (qt a 1 b ws) c
theorem pG(a b ws c:aR):(rK a b ws c).length=16:=eJ _ _
theorem DL(a c ws d:aR):∀b∈rK a c ws d,0<=b/\b<=255:=vv _ _
theorem gP(a b:bB):bI (a++b)=bI a++bI b:=by simp[bI]
theorem Ad(a b:aR):strOfNums (a++b)=strOfNums a++strOfNums b:=by
 unfold strOfNums;simp
 rfl
theorem bG(a:aR):(strOfNums a).size=a.length:=by simp[strOfNums,ByteArray.size]
def Dt(a b ws c:List Int):Bool:=rK a b (ws.take (ws.length -16)) c==ws.drop (ws.length -16)
def sY(a b ws c:List Int):List Int:=if ws.length<16 then[]else if Dt a b ws c then qt a 1 b (ws.take (ws.length -16))else[]
def sX(a b ws c:List Int):Int:=if ws.length<16 then 2 else if Dt a b ws c then 0 else 5
theorem OZ{a b:bB}(h:¬a=b):¬a.toList=b.toList:=λe=>h (by
 rw[nM,nM]at e;cases a;cases b;simp at e;rw[e])
theorem MC:strOfNums []={data:= #[]}:=rfl
def Cn(i:Nat):Nat:= [0,1,2,3,4,5,6,7,8,9,10,11,12,13,14,15,16,17,18,19].getD i 0
def bM(a:Addr):Value:= .iface 356 (.pointer (some a))
structure ts(w:World)(E:Nat->Addr):Prop where
 var:∀i,i<20->w.cell? ⟨Cn i,0,none⟩=some (bM (E i))
 et:∀i,i<20-> ∃c t,w.heap[(E i).block]?=some (.cells c t (0,0))
 apart:∀i j,i<20->j<20->E i=E j->i=j
theorem ts.below{w w'}{E}(h:ts w E)(d:Below w.heap.size w w'):ts w' E:=
 ⟨λi a=>(d.cell (aH (h.var i a))).trans (h.var i a),λi a=>by
  obtain⟨c,t,e⟩:=h.et i a;have b:(E i).block<w.heap.size:=(aT.1 e).1;exact⟨c,t,by rw[d.block _ b];exact e⟩,h.apart⟩
def Qw(E:Nat->Addr):Array Value:=((List.range 20).map λi=>bM (E i)).toArray
theorem Nx(E:gn):(prog.built 80 [(0,bM (E 0)),(1,bM (E 1)),(2,bM (E 2)),(3,bM (E 3)),(4,bM (E 4)),(5,bM (E 5)),(6,bM (E 6)),(7,bM (E 7)),(8,bM (E 8)),(9,bM (E 9)),(10,bM (E 10)),(11,bM (E 11)),(12,bM (E 12)),(13,bM (E 13)),(14,bM (E 14)),(15,bM (E 15)),(16,bM (E 16)),(17,bM (E 17)),(18,bM (E 18)),(19,bM (E 19))]).getD #[]=Qw E:=al
theorem CI(E:gn)(n:Nat)(h:n<20)(w:ay):(Instr.index 80 (.agg (Qw E)) (.int .i64 n)).run prog w= .ok (bM (E n)) w:=by
 have a:n=0\/n=1\/n=2\/n=3\/n=4\/n=5\/n=6\/n=7\/n=8\/n=9\/n=10\/n=11\/n=12\/n=13\/n=14\/n=15\/n=16\/n=17\/n=18\/n=19:=af;rcases a with rfl|rfl|rfl|rfl|rfl|rfl|rfl|rfl|rfl|rfl|rfl|rfl|rfl|rfl|rfl|rfl|rfl|rfl|rfl|rfl
 all_goals(show _=_;kernel_rfl)
theorem Qm(E:gn)(g:fg)(h:cH)(k:Nat)(D:k<20)(w:ay)(a:ts w E)
 (v:∀i,i<20->i=k->Calls prog 21 #[.iface g h,bM (E i)] w λe c=>e= .returned (.bool true)/\c=w)
 (hf:∀i,i<20->i≠k->Calls prog 21 #[.iface g h,bM (E i)] w λe c=>e= .returned (.bool false)/\c=w):
 Calls prog 8 #[.iface g h] w λe c=>e= .returned (.int .i64 ((k:Int)+1))/\w=c:=by
 have c0:w.cell? ⟨0,0,none⟩=some (bM (E 0)):=a.var 0 an;have c1:w.cell? ⟨1,0,none⟩=some (bM (E 1)):=a.var 1 an;have c2:w.cell? ⟨2,0,none⟩=some (bM (E 2)):=a.var 2 an;have c3:w.cell? ⟨3,0,none⟩=some (bM (E 3)):=a.var 3 an;have c4:w.cell? ⟨4,0,none⟩=some (bM (E 4)):=a.var 4 an;have c5:w.cell? ⟨5,0,none⟩=some (bM (E 5)):=a.var 5 an;have c6:w.cell? ⟨6,0,none⟩=some (bM (E 6)):=a.var 6 an;have x:w.cell? ⟨7,0,none⟩=some (bM (E 7)):=a.var 7 an;have y:w.cell? ⟨8,0,none⟩=some (bM (E 8)):=a.var 8 an;have z:w.cell? ⟨9,0,none⟩=some (bM (E 9)):=a.var 9 an;have j:w.cell? ⟨10,0,none⟩=some (bM (E 10)):=a.var 10 an;have l:w.cell? ⟨11,0,none⟩=some (bM (E 11)):=a.var 11 an;have m:w.cell? ⟨12,0,none⟩=some (bM (E 12)):=a.var 12 an;have o:w.cell? ⟨13,0,none⟩=some (bM (E 13)):=a.var 13 an;have p:w.cell? ⟨14,0,none⟩=some (bM (E 14)):=a.var 14 an;have q:w.cell? ⟨15,0,none⟩=some (bM (E 15)):=a.var 15 an;have r:w.cell? ⟨16,0,none⟩=some (bM (E 16)):=a.var 16 an;have s:w.cell? ⟨17,0,none⟩=some (bM (E 17)):=a.var 17 an;have t:w.cell? ⟨18,0,none⟩=some (bM (E 18)):=a.var 18 an;have u:w.cell? ⟨19,0,none⟩=some (bM (E 19)):=a.var 19 an;have A:=aa v;have B:=aa hf;clear v hf a
 go_enter func8,ntmps8
 go_wp2_with (first
  |(refine wpList_build rfl 80 _ rfl al ?_)
  |fail)
 rw[Nx];clear c0 c1 c2 c3 c4 c5 c6 x y z j l m o p q r s t u
 go_loopw [28] (λi wr=> ∃n:Nat,n<=k/\i= .int .i64 n/\wr=w) (λi _=>20 -(intOf i).toNat)
 case atStart=>exact⟨0,af,rfl,rfl⟩
 case round=>
  obtain⟨n,C,rfl,rfl⟩:=hrel;have d:n<20:=af;have F:(n:Int)<20:=af;have f:=CI E n d wr
  go_wp2_with fail
  by_cases b:n=k
  .refine(A.o n d b).mono ?_;rintro e c ⟨rfl,rfl⟩;clear f
   go_wp2_with fail
   go_ret
   exact⟨rfl,rfl⟩
  .refine(B.o n d b).mono ?_;rintro e c ⟨rfl,rfl⟩;clear f
   go_wp2_with fail
   go_roundw
   case rel=>exact⟨n+1,af,rfl,trivial⟩
   case measure=>simp[intOf];omega
theorem On{b0 b1 b2 b3}(d:0<=b0)(u0:b0<=255)(e:0<=b1)(u1:b1<=255)(f:0<=b2)(u2:b2<=255)(g:0<=b3)(u3:b3<=255):
 bits BinOp.or IntKind.u64 (bits BinOp.or IntKind.u64 (bits BinOp.or IntKind.u64 b0 (b1*256)) (b2*65536)) (b3*16777216)=xA b0 b1 b2 b3:=by
 obtain⟨k,rfl⟩:=au d;obtain⟨a,rfl⟩:=au e;obtain⟨b,rfl⟩:=au f;obtain⟨c,rfl⟩:=au g;have h:((a:Int)*256)=((a*256:Nat):Int):=af;have i:((b:Int)*65536)=((b*65536:Nat):Int):=af;have j:((c:Int)*16777216)=((c*16777216:Nat):Int):=af;rw[h,u64_or_nat _ _ af af,Nat.or_comm,nat_join 8 _ _ af af];rw[i,u64_or_nat _ _ af af,Nat.or_comm,nat_join 16 _ _ af af];rw[j,u64_or_nat _ _ af af,Nat.or_comm,nat_join 24 _ _ af af];unfold xA;omega
theorem IH(a:aR)(i:Nat)(y:i<8)(q:a.length=32)(c:jr a)(w:ay):
 Calls prog 218 #[.agg (ai .u8 a),.int .i64 (i:Int)] w λe r=>e= .returned (.int .u64 (xA (ix a (4*i)) (ix a (4*i+1)) (ix a (4*i+2)) (ix a (4*i+3))))/\Below w.heap.size w r:=by
 have f:=aa q;have g:=c (4*i);have h:=c (4*i+1);have j:=c (4*i+2);have k:=c (4*i+3);have s:=On g.1 g.2 h.1 h.2 j.1 j.2 k.1 k.2;clear q c;obtain⟨z,l⟩:=aP (ix a (4*i));obtain⟨A,m⟩:=aP (ix a (4*i+1));obtain⟨B,n⟩:=aP (ix a (4*i+2));obtain⟨C,o⟩:=aP (ix a (4*i+3));rw[<-l,<-m,<-n,<-o]at s⊢;rw[<-l]at g;rw[<-m]at h;rw[<-n]at j;rw[<-o]at k;have t:=aa l;have u:=aa m;have v:=aa n;have x:=aa o;clear l m n o
 go_enter func218,ntmps218
 go_upto_region 1 with(fail)
 refine aU (λW=>Below w.heap.size w W/\Whole W w.heap.size 22 (ai .u8 a)) ⟨by go_grown,Whole.new rfl rfl⟩ ?_;intro D ⟨d,b⟩;have p:=aa d;have c0:=b.int (4*i) (by rw[f.o];omega);have c1:=b.int (4*i+1) (by rw[f.o];omega);have c2:=b.int (4*i+2) (by rw[f.o];omega);have c3:=b.int (4*i+3) (by rw[f.o];omega);clear d b;rw[<-t.o]at c0;rw[<-u.o]at c1;rw[<-v.o]at c2;rw[<-x.o]at c3;obtain⟨E,u0⟩:=g;obtain⟨F,u1⟩:=h;obtain⟨G,u2⟩:=j;obtain⟨H,u3⟩:=k;have s0:IntKind.i64.wrap (4*(i:Int))=4*(i:Int):=IntWalk.i64_in _ af;have s1:IntKind.i64.wrap (4*(i:Int)+1)=4*(i:Int)+1:=IntWalk.i64_in _ af;have s2:IntKind.i64.wrap (4*(i:Int)+2)=4*(i:Int)+2:=IntWalk.i64_in _ af;have s3:IntKind.i64.wrap (4*(i:Int)+3)=4*(i:Int)+3:=IntWalk.i64_in _ af;have I:(4*(i:Int)).toNat=4*i:=af;have J:(4*(i:Int)+1).toNat=4*i+1:=af;have K:(4*(i:Int)+2).toNat=4*i+2:=af;have L:(4*(i:Int)+3).toNat=4*i+3:=af;have M:0<=4*(i:Int):=af;have N:0<=4*(i:Int)+1:=af;have O:0<=4*(i:Int)+2:=af;have P:0<=4*(i:Int)+3:=af;have Q:4*(i:Int)<32:=af;have R:4*(i:Int)+1<32:=af;have S:4*(i:Int)+2<32:=af;have U:4*(i:Int)+3<32:=af
 go_quiet (fail)
 go_wp2
 go_ret
 exact⟨rfl,p.o.trans (bA (aw _ _) _)⟩
def jS(w:World):Prop:=w.rangeAt 27 0 ((pg 8 lS).map (Value.int .u32))
theorem jS.at_{w}(h:jS w){i}(a:i<8):w.cell? ⟨27,i,none⟩=some (.int .u32 ((gq lS i:Nat):Int)):=by
 have b:=h i (.int .u32 ((gq lS i:Nat):Int)) (by
  rw[bi];unfold pg eH;rw[bi,List.getElem?_range a];simp)
 rwa[aW]at b
theorem jS.below{w W}(h:jS w)(b:Below w.heap.size w W):jS W:=λj v c=>by
 have a:=h j v c;exact(b.cell (aH a)).trans a
theorem Bd{w}{g m n i}{T}(h:Whole w g T (ai .u32 (pg m n)))(a:i<m):w.cell? ⟨g,i,none⟩=some (.int .u32 ((gq n i:Nat):Int)):=by
 have c:=h.int i (by rw[y8];exact a);rwa[ME a]at c
theorem uf(n g:Nat)(w:ay)(u:Whole w g 314 (ai .u32 (pg 9 n)))(D:jS w)(v:n/2^(32*(8+1))=0):
 Calls prog 220 #[.pointer (some ⟨g,0,none⟩)] w λe G=>e= .returned (.bool (decide (n<lS)))/\Below w.heap.size w G:=by
 have E:=aa u;have H:=aa D;have I:=Bd u (i:=8) an;have c:=gK n 8;rw[v,Nat.zero_mul,aW]at c;clear u D
 by_cases x:gq n 8=0
 .rw[x]at I c;have d:n/2^(32*8)=lS/2^(32*8):=by rw[c];decide+kernel
  have k:=aa d;clear d c x v;obtain⟨r,f⟩:=aP (decide (n<lS));rw[<-f];have j:=aa f;clear f
  go_enter func220,ntmps220
  go_wp2_with fail
  go_loopw [3] (λi wr=> ∃m:Nat,m<=8/\i= .int .i64 ((m:Int) -1)/\n/2^(32*m)=lS/2^(32*m)/\Below w.heap.size w wr) (λi _=>(intOf i+1).toNat)
  case atStart=>exact⟨8,af,rfl,k.o,aw _ _⟩
  case round=>
   obtain⟨m,F,rfl,b,p⟩:=hrel;have y:=aa p
   by_cases l:m=0
   .subst l
    have:r=false:=by
     rw[j.o];have h:n=lS:=by simpa using b
     rw[h];decide
    subst this;clear b p
    go_wp2_with fail
    go_ret
    exact⟨rfl,y.o⟩
   .obtain⟨q,rfl⟩:∃q,m=q+1:=⟨m -1,af⟩;have L:((q+1:Nat):Int) -1=q:=af;have M:(0:Int)<=q:=af;have N:(q:Int)<9:=af;have O:(q:Int)<8:=af;have J:=Bd (E.o.below p E.o.inside) (i:=q) af;have P:=(H.o.below p).at_ (i:=q) af;have z:q<8:=af;have K:=aa z
    by_cases s:gq n q=gq lS q
    .have A:=aa (UC b s);rw[s]at J;generalize gq lS q=o at*;clear b p F l s z
     go_wp2_with fail
     go_quiet (fail)
     all_goals
      go_wp2_with fail
      go_roundw
      case rel=>exact⟨q,by have:=K.o;omega,by go_num,A.o,y.o.trans (bA (aw _ _) _)⟩
      case measure=>simp[intOf]
    .have t:r=decide (gq n q<gq lS q):=by
      rw[j.o];have:=aaN b s;simp only[this]
     have B:¬(((gq n q:Nat):Int)=((gq lS q:Nat):Int)):=af;clear j;generalize gq lS q=o at*;generalize gq n q=a at*;subst t;clear b p F l s z
     go_wp2_with fail
     go_quiet (fail)
     all_goals
      go_wp2_with fail
      go_quiet (fail)
      go_wp2_with fail
      go_ret
      exact⟨rfl,y.o.trans (bA (bA (aw _ _) _) _)⟩
 .have B:¬(((gq n 8:Nat):Int)=0):=af
  have t:decide (n<lS)=false:=by
   rw[uq];intro C;have Q:n/2^(32*8)=0:=oa (Nat.lt_trans C (by decide+kernel));omega
  rw[t];generalize gq n 8=a at*;clear c v x t
  go_enter func220,ntmps220
  go_wp2_with fail
  go_ret
  exact⟨rfl,aw _ _⟩
theorem jS.only{w W}{g}(h:jS w)(b:w.grownBy W (some g))(c:g≠27):jS W:=λj v d=>by
 have a:=h j v d;exact(df (b.block _ (aH a) (bE (gT c)))).trans a
def Lx(a o b:Nat):Nat:=if a<o+b then a+18446744073709551616 -o -b else a -o -b
theorem LM{a o b:Nat}(c:a<4294967296)(d:o<4294967296)(e:b<=1):IntKind.u64.wrap (IntKind.u64.wrap ((a:Int) -o) -b)=((Lx a o b:Nat):Int):=by
 unfold Lx;rw[bH,bH]
 split<;>omega
theorem WA{a o b}(c:a<4294967296)(d:o<4294967296)(e:b<=1):((Lx a o b:Nat):Int)/9223372036854775808=((if a<o+b then 1 else 0:Nat):Int):=by
 unfold Lx
 split<;>omega
theorem WB{a o b}(c:a<4294967296)(d:o<4294967296)(e:b<=1):((Lx a o b:Nat):Int) %4294967296=(((a+8589934592 -o -b) %4294967296:Nat):Int):=by
 unfold Lx
 split<;>omega
theorem Lm(n g:Nat)(w:ay)(F:Whole w g 314 (ai .u32 (pg 9 n)))(G:jS w)(H:n/2^(32*(8+1))=0)(I:g≠27):
 Calls prog 243 #[.pointer (some ⟨g,0,none⟩)] w λe J=>e= .returned (.tuple #[])/\Whole J g 314 (ai .u32 (pg 9 (CH n)))/\w.grownBy J (some g):=by
 have m:=aa F;have t:=aa G;have K:=aa H;have M:=aa I;clear F G H I
 by_cases a:n<lS
 .have o:CH n=n:=by unfold CH;rw[aJ a]
  rw[o];clear o
  go_enter func243,ntmps243
  go_wp2_with fail
  refine(uf n g w m.o t.o K.o).mono ?_;rintro e W ⟨rfl,h⟩;rw[fj a];have s:=aa h;clear h a
  go_wp2_with fail
  refine cI (results_none rfl _ _ _) rfl ?_;exact⟨rfl,m.o.below s.o m.o.inside,bR s.o _⟩
 .have o:CH n=n -lS:=by unfold CH;rw[aq a]
  rw[o];clear o
  go_enter func243,ntmps243
  go_wp2_with fail
  refine(uf n g w m.o t.o K.o).mono ?_;rintro e W ⟨rfl,h⟩;rw[eM a];have s:=aa h;have u:=aa (Nat.le_of_not_lt a);have v:=aa (m.o.below h m.o.inside);have x:=aa (t.o.below h);clear h a
  go_wp2_with fail
  go_loopw [2,8] (λb i wr=> ∃k:Nat,k<=9/\i= .int .i64 (k:Int)/\b= .int .u64 ((Ui n lS k:Nat):Int)/\eU W wr g 314 .u32 (eH (gq (n -lS)) (gq n) 9 k)) (λ_ i _=>9 -(intOf i).toNat)
  case atStart=>exact⟨0,af,rfl,rfl,by rw[Eg];exact eU.start v.o⟩
  case round=>
   obtain⟨k,Q,rfl,rfl,j⟩:=hrel;have y:=aa j
   by_cases d:k<9
   .have N:=j.et.int k (by rw[du];exact d);rw[mo d,aq (pM _)]at N;have fa:=j.et.free k;have z:=ji n k;have A:=ji lS k;have B:=JG n lS k;have L:=WC u.o k;have c:=aa (jV (f:=gq (n -lS)) (g:=gq n) d);rw[L]at c;have p:=aa (show Ui n lS (k+1)=if gq n k<gq lS k+Ui n lS k then 1 else 0 from rfl);have C:=aa d;have R:(k:Int)<9:=af;have l:=LM z A B;have q:=aa (WA z A B);have r:=aa (WB z A B);generalize Lx (gq n k) (gq lS k) (Ui n lS k)=S at*;clear L j
    by_cases O:k=8
    .subst O;have D:gq lS 8=0:=by decide+kernel
     rw[D]at l;simp only[Int.ofNat_zero,Int.sub_zero]at l;rw[show IntKind.u64.wrap ((gq n 8:Nat):Int)=((gq n 8:Nat):Int) by rw[bH];omega]at l
     go_wp2_with fail
     go_roundw
     case rel=>exact⟨9,af,by go_num,by rw[p.o,q.o],by rw[r.o,<-c.o];exact y.o.set 8 _⟩
     case measure=>simp[intOf]
    .have U:=(x.o.only y.o.only M.o).at_ (i:=k) af;have V:(k:Int)<8:=af
     go_wp2_with fail
     go_roundw
     case rel=>exact⟨k+1,by have:=C.o;omega,by go_num,by rw[p.o,q.o],by rw[r.o,<-c.o];exact y.o.set k _⟩
     case measure=>simp[intOf];omega
   .obtain rfl:k=9:=af;have l:=j.et;rw[BE]at l;have P:=aa l;have E:=aa j.only;clear j l
    go_wp2_with fail
    go_end0
    exact⟨rfl,P.o,aZ (bR s.o _) E.o⟩
attribute [local go_sem ↓] li lm
attribute [local go_sem] cr cD
theorem fD{n:Nat}(h:n<2251799813685248):Fe [(n:Int),0,0,0,0] n:=by
 refine va ?_ ?_ ?_ ?_ ?_ ?_
 all_goals omega
theorem nJ:Fe [0,0,0,0,0] 0:=fD (n:=0) an
theorem ew{n:Nat}(h:n<2251799813685248)(w:ay):
 Calls prog 24 #[.int .u64 n] w (Ai [(n:Int),0,0,0,0] w):=by
 have f:=LX (n:Int) af af;rw[show(n:Int) %2251799813685248=n by omega]at f;have g:(n:Int)/2251799813685248=0:=af;have i:=aa (fD h);clear h
 go_enter func24,ntmps24
 go_upto_region 1 with(fail)
 refine aU (λW=>Below w.heap.size w W/\Whole W w.heap.size 50 (ai .u64 [0,0,0,0,0])) ⟨by go_grown,Whole.new rfl rfl⟩ ?_;intro j ⟨b,a⟩;have l:=(At.j a).R (m:=5) (by rw[ag];rfl);have o:mZ 5 (.agg #[.int .u64 n,.int .u64 0,.int .u64 0,.int .u64 0,.int .u64 0]):=bY .u64 [(n:Int),0,0,0,0] 5 rfl;have c:=aa b;have d:=aa a;clear b a
 go_wp2_with fail
 refine ej rfl underlying50 rfl sW w.heap.size (ai .u64 [(n:Int),0,0,0,0]) _ rfl rfl d.o (by rw[ag];rfl) (by rw[ag];rfl) ⟨rfl,?_⟩;exact c.o.grown (aG _ _ _ _) c.o.size (λk e=>by injection e with e;omega)
theorem iX(c:Bool){a b}{x y}(o:Fe a x)(p:Fe b y)(w:ay):
 Calls prog 88 #[.bool c,.agg (ai .u64 a),.agg (ai .u64 b)] w λe r=>e= .returned (.agg (ai .u64 (if c then a else b)))/\Below w.heap.size w r:=by
 have j:=aa o;have l:=aa p;clear o p;cases c
 all_goals
  go_enter func88,ntmps88
  go_upto_region 1 with(fail)
  refine aU (λW=>Below w.heap.size w W/\Whole W w.heap.size 50 (ai .u64 a)/\Whole W (w.heap.size+1) 50 (ai .u64 b)/\Whole W (w.heap.size+2) 50 (ai .u64 [0,0,0,0,0])) ⟨by go_grown,((Whole.new rfl rfl).alloc _).alloc _,(Whole.new bj rfl).alloc _,Whole.new bj rfl⟩ ?_;intro u ⟨h,d,f,g⟩;have i:=aa h;have n:=aa g;have v:=(At.j d).R (m:=5) (by rw[ag,j.o.len]);have z:=(At.j d).row (m:=5) (by rw[ag,j.o.len]);have A:=(At.j f).R (m:=5) (by rw[ag,l.o.len]);have B:=(At.j f).row (m:=5) (by rw[ag,l.o.len]);have C:=(At.j g).R (m:=5) (by rw[ag];rfl);have s:=bY .u64 a 5 j.o.len;have t:=bY .u64 b 5 l.o.len;clear h d f g
  go_wp2_with fail
  refine ej rfl underlying50 rfl sW (w.heap.size+2) _ _ rfl rfl n.o (by rw[ag];rfl) (by rw[ag];first|exact j.o.len|exact l.o.len) ⟨rfl,?_⟩;exact i.o.grown (aG _ _ _ _) i.o.size (λk q=>by injection q with q;omega)
theorem ot{a}{x}(q:Fe a x)(w:ay):
 Calls prog 25 #[.agg (ai .u64 a)] w (Ai (bU (mY [0,0,0,0,0] a)) w):=by
 have l:=aa q;clear q
 go_enter func25,ntmps25
 go_upto_region 1 with(fail)
 refine aU (λW=>Below w.heap.size w W/\Whole W w.heap.size 50 (ai .u64 a)/\Whole W (w.heap.size+1) 50 (ai .u64 [0,0,0,0,0])) ⟨by go_grown,(Whole.new rfl rfl).alloc _,Whole.new bj rfl⟩ ?_;intro t ⟨f,b,g⟩;have h:=aa f;have i:=aa g;have u:=(At.j b).R (m:=5) (by rw[ag,l.o.len]);have v:=(At.j b).row (m:=5) (by rw[ag,l.o.len]);clear f b g
 go_wp2_with fail
 refine(AI nJ l.o _).mono ?_;rintro e w2 ⟨rfl,d⟩;have n:=pq nJ l.o;generalize bU (mY [0,0,0,0,0] a)=c at*;have o:=i.o.below d i.o.inside;have y:=(At.j o).R (m:=5) (by rw[ag];rfl);have z:=bY .u64 c 5 n.len;have s:=aa n;have j:=aa (h.o.trans (d.mono h.o.size));have p:=aa o;clear d o n
 go_wp2_with fail
 refine ej rfl underlying50 rfl sW (w.heap.size+1) (ai .u64 c) _ rfl rfl p.o (by rw[ag];rfl) (by rw[ag,s.o.len]) ⟨rfl,?_⟩;exact j.o.grown (aG _ _ _ _) j.o.size (λk r=>by injection r with r;omega)
end Go.Proofs.P
namespace Go.Proofs.P
attribute [local go_sem ↓] li lm
attribute [local go_sem] cr cD
def pP(s:Nat):Nat:=s %18446744073709551616
def oU(s:Nat):Nat:=s/18446744073709551616
theorem yT(g o S p q:Nat)(a:p<18446744073709551616)(hq:q<18446744073709551616)(b:S+p*q<340282366920938463463374607431768211456)(w:ay)
 (
  c0:w.cell? ⟨g,o,none⟩=some (.int .u64 (pP S:Nat))) (c1:w.cell? ⟨g,o+1,none⟩=some (.int .u64 (oU S:Nat))) (r:w.frozen? ⟨g,o,none⟩=false) (s:w.frozen? ⟨g,o+1,none⟩=false):
  Calls prog 52 #[.pointer (some ⟨g,o,none⟩),.int .u64 p,.int .u64 q] w
   λe j=>e= .returned (.tuple #[])/\j=(w.setCell ⟨g,o,none⟩ (.int .u64 (pP (S+p*q):Nat))).setCell ⟨g,o+1,none⟩ (.int .u64 (oU (S+p*q):Nat)):=by
 have f:=aa (And.intro a hq);have k:=λW=>run_add64 (pP S) (pP (p*q)) 0 an W;have m:=λW=>run_add64 (oU S) (oU (p*q)) (aC (pP S) (pP (p*q)) 0) (LQ _ _ _ (by unfold Wd pP;omega) (by unfold Wd pP;omega) an) W;rw[show aS (pP S) (pP (p*q)) 0=pP (S+p*q)from MT _ _,show((0:Nat):Int)=0 from rfl]at k;rw[show aS (oU S) (oU (p*q)) (aC (pP S) (pP (p*q)) 0)=oU (S+p*q)from MS _ _ af]at m;have i:=aa (show p*q/18446744073709551616=oU (p*q)/\p*q %18446744073709551616=pP (p*q)from⟨rfl,rfl⟩);clear b a hq;generalize pP (S+p*q)=t at*;generalize oU (S+p*q)=b at*;generalize pP (p*q)=n at*;generalize oU (p*q)=a at*;generalize pP S=l at*;generalize oU S=h at*;generalize aC l n 0=c at*;generalize aC h a c=d at*
 go_enter func52,ntmps52
 go_wp2_with fail
 refine(bits_Mul64 p q f.o.1 f.o.2 _).mono ?_;rw[i.o.1,i.o.2];rintro e w1 ⟨rfl,rfl⟩
 go_wp2_with fail
 go_end0
 exact⟨rfl,rfl⟩
section
variable {d:Tmp}{x y:Operand}{ty:TypeId}{pos:String}{after:Array Edge}{gd:Option (Nat×Bool)}{a:Go.Act}{w:World}{K:Go.Act->World->Prop}{Q:Exit->Go.Act->World->Prop}
theorem FM(b:jQ w (a.eval x) 5):Oper.wp prog ⟨some d,.load 48 x,ty,pos,after,gd⟩ a w K Q=K (a.put (some d) (jx w (a.eval x) 5)) w:=iS underlying48 rfl al b
end
attribute [local go_sem ↓] FM
theorem vP{a}(b:a.length=5)(i:Nat)(d:i<5)(w:ay):(Instr.index 48 (.agg (ai .u64 a)) (.int .i64 i)).run prog w= .ok (.int .u64 (ix a i)) w:=by
 obtain⟨e,f,g,h,j,rfl⟩:=qa b;have c:i=0\/i=1\/i=2\/i=3\/i=4:=af;rcases c with rfl|rfl|rfl|rfl|rfl
 all_goals(show _=_;kernel_rfl)
def lU(L:List Int):List Int:=L.flatMap λs=> [(pP s.toNat:Int),(oU s.toNat:Int)]
theorem sI(L:aR):(lU L).length=2*L.length:=by
 induction L with
 |nil=>rfl
 |cons s L a=>unfold lU at*;rw[mS,am,a];simp;omega
theorem xp:∀(L:aR) (j:Nat),j<L.length->ix (lU L) (2*j)=(pP (ix L j).toNat:Int)/\ix (lU L) (2*j+1)=(oU (ix L j).toNat:Int)
 | [],j,h=>by simp at h
 |s::L,0,_=>⟨rfl,rfl⟩
 |s::L,j+1,h=>by
  have:=xp L j (ek h);exact this
theorem yB:∀(L:aR) (j:Nat) (v:Int),j<L.length->((lU L).set (2*j) (pP v.toNat:Int)).set (2*j+1) (oU v.toNat:Int)=lU (L.set j v)
 | [],j,v,h=>by simp at h
 |s::L,0,v,_=>rfl
 |s::L,j+1,v,h=>by
  have:=yB L j v (ek h);show(pP s.toNat:Int)::(oU s.toNat:Int)::((lU L).set (2*j) _).set (2*j+1) _=(pP s.toNat:Int)::(oU s.toNat:Int)::lU (L.set j v);rw[this]
theorem Bm{W0 wr}{g}{T}{a b}{n}(U:eU W0 wr g T .u64 (lU (ed a b n)))(j:Nat)(c:j<5)(o:Nat)(d:o=2*j):
 wr.cell? ⟨g,o,none⟩=some (.int .u64 (pP (ix (ed a b n) j).toNat:Nat))/\wr.cell? ⟨g,o+1,none⟩=some (.int .u64 (oU (ix (ed a b n) j).toNat:Nat)):=by
 subst d;have h:(lU (ed a b n)).length=10:=by rw[sI,lJ]
 obtain⟨e,f⟩:=xp (ed a b n) j (by rw[lJ];exact c);exact⟨by rw[U.cell _ af,e],by rw[U.cell _ af,f]⟩
theorem DZ{W0 wr}{g}{T}{a b}{x y n}(d:Fe a x)(f:Fe b y)(U:eU W0 wr g T .u64 (lU (ed a b n)))(j:Nat)(h:j=(n/5+n %5) %5)(o:Nat)(i:o=2*j)(p q:Nat)(c:uk a b n=(p*q:Nat)):
 eU W0 ((wr.setCell ⟨g,o,none⟩ (.int .u64 (pP ((ix (ed a b n) j).toNat+p*q):Nat))).setCell ⟨g,o+1,none⟩ (.int .u64 (oU ((ix (ed a b n) j).toNat+p*q):Nat))) g T .u64 (lU (ed a b (n+1))):=by
 subst i;have k:=(w6 d f n j).1
 have e:ed a b (n+1)=(ed a b n).set j (((ix (ed a b n) j).toNat+p*q:Nat):Int):=by
  rw[ed,<-h];congr 1;rw[show(if n/5+n %5<5 then ix a (n/5)else ix a (n/5)*19)*ix b (n %5)=uk a b n from rfl,c];omega
 rw[e,<-yB _ _ _ (by rw[lJ];omega),cW];exact(U.set _ _).set _ _
theorem DY{a b}{x y}(d:Fe a x)(e:Fe b y)(n j:Nat)(g:n<25)(p q:Nat)(c:uk a b n=(p*q:Nat)):(ix (ed a b n) j).toNat+p*q<340282366920938463463374607431768211456:=by
 have h:=w6 d e n j;have f:=IU d e n;rw[c]at f;have i:(n:Int)*96341445628561054910891268505600<=24*96341445628561054910891268505600:=af;omega
def Fj(S:List Int):Nat->List Int
 |0=> [0,0,0,0,0]
 |k+1=>(Fj S k).set k ((ix S k+dG S k) %2251799813685248)
def uM(S:List Int):Nat->List Int
 |0=>S
 |k+1=>(uM S k).set k (ix S k+dG S k)
theorem Ii(S:aR)(k:Nat):(Fj S k).length=5:=by
 induction k with
 |zero=>rfl
 |succ k a=>rw[Fj,dx,a]
theorem kl(S:aR)(k:Nat):(uM S k).length=S.length:=by
 induction k with
 |zero=>rfl
 |succ k a=>rw[uM,dx,a]
theorem TJ(S:aR)(k:Nat)(b:k<=S.length)(j:Nat)(c:k<=j):ix (uM S k) j=ix S j:=by
 induction k with
 |zero=>rfl
 |succ k a=>rw[uM,lW _ _ _ _ (by rw[kl];omega),aq af,a af af]
theorem RU{S}(h:S.length=5):Fj S 5=iz S 5:=by
 obtain⟨a,b,c,d,e,rfl⟩:=qa h
 rfl
theorem OU{a b}{x y}(d:Fe a x)(e:Fe b y)(i:Nat):0<=ix (ed a b 25) i/\ix (ed a b 25) i<=2408536140714026372772281712640000/\0<=dG (ed a b 25) i/\dG (ed a b 25) i<=1069604911625012000:=by
 have c:=λi=>w6 d e 25 i;refine⟨(c i).1,by have:=(c i).2;omega,?_⟩
 induction i with
 |zero=>show(0:Int)<=0/\(0:Int)<=_;omega
 |succ i f=>rw[dG];have:=c i;omega
theorem P6{S}(h:S.length=5)(i:Nat)(g:i<5):0<=ix (iz S 5) i/\ix (iz S 5) i<2251799813685248:=by
 obtain⟨a,b,c,d,f,rfl⟩:=qa h;have e:iz [a,b,c,d,f] 5= [(a+0) %2251799813685248,(b+dG [a,b,c,d,f] 1) %2251799813685248,(c+dG [a,b,c,d,f] 2) %2251799813685248,(d+dG [a,b,c,d,f] 3) %2251799813685248,(f+dG [a,b,c,d,f] 4) %2251799813685248]:=rfl;rw[e]
 match i,g with
 |0,_=>simp only[E3];omega
 |1,_=>simp only[E3];omega
 |2,_=>simp only[E3];omega
 |3,_=>simp only[E3];omega
 |4,_=>simp only[E3];omega
theorem Rb(N:Nat)(h:N<41538374868278621028243970633760768):bits BinOp.or IntKind.u64 ((oU N:Nat)*8192:Int) ((pP N:Nat)/2251799813685248:Int)=((N/2251799813685248:Nat):Int):=by
 rw[show((oU N:Nat)*8192:Int)=((oU N*8192:Nat):Int) by omega,show((pP N:Nat)/2251799813685248:Int)=((pP N/2251799813685248:Nat):Int) by omega,
  u64_or_nat _ _ (by unfold oU;omega) (by unfold pP;omega),nat_join 13 _ _ af (by unfold pP;omega)]
 unfold oU pP;omega
theorem Rt(N:Nat):bits BinOp.and IntKind.u64 (pP N:Nat) 2251799813685247=((N %2251799813685248:Nat):Int):=by
 rw[LX _ af (by unfold pP;omega)];unfold pP;omega
theorem MK(s c:Nat):aS (pP s) c 0=pP (s+c):=by unfold aS pP;omega
theorem MJ(s c:Nat)(a:c<18446744073709551616):oU s+aC (pP s) c 0=oU (s+c):=by unfold aC pP oU;omega
theorem jK{a b:aR}{x y:Nat}(M:Fe a x)(hb:Fe b y)(w:ay):
 Calls prog 26 #[.agg (ai .u64 a),.agg (ai .u64 b)] w (Ai (mulL a b) w):=by
 have v:=aa M;have z:=aa hb;clear M hb
 go_enter func26,ntmps26
 go_upto_region 2 with(fail)
 refine aU (λW=>Below w.heap.size w W/\Whole W w.heap.size 50 (ai .u64 a)/\Whole W (w.heap.size+1) 50 (ai .u64 b)/\Whole W (w.heap.size+2) 50 (ai .u64 [0,0,0,0,0])/\Whole W (w.heap.size+3) 134 (ai .u64 (lU [0,0,0,0,0]))) ⟨by go_grown,(((Whole.new rfl rfl).alloc _).alloc _).alloc _,((Whole.new bj rfl).alloc _).alloc _,(Whole.new bj rfl).alloc _,Whole.new bj rfl⟩ ?_;intro W0 ⟨av,Y,j,ax,az⟩;have aB:=aa av;have bd:=aa ax;have be:=aa j;have bg:=aa az;have l1:=(At.j Y).R (m:=5) (by rw[ag,v.o.len]);have r1:=(At.j Y).row (m:=5) (by rw[ag,v.o.len]);clear av Y j ax az
 go_wp2_with fail
 clear l1 r1
 go_loopw [19] (λi wr=> ∃k:Nat,k<=5/\i= .int .i64 k/\eU W0 wr (w.heap.size+3) 134 .u64 (lU (ed a b (5*k)))) (λi _=>5 -(intOf i).toNat)
 case atStart=>exact⟨0,af,rfl,eU.start bg.o⟩
 case round=>
  obtain⟨k,hk,rfl,U⟩:=hrel;have HU:=aa U
  by_cases H:k<5
  .have i1:(k:Int)<5:=af;have j:=be.o.only U.only bj;have l1:=(At.j j).R (m:=5) (by rw[ag,z.o.len]);have r1:=(At.j j).row (m:=5) (by rw[ag,z.o.len]);have g1:=vP v.o.len k H wr;have aE:=v.o.hi k;obtain⟨p,hp⟩:=au (v.o.lo k);rw[hp]at g1 aE;have HP:=aa hp;have bh:=aa (af:p<2251799813816320);clear U j hp aE
   go_wp2_with fail
   clear g1 l1 r1
   go_loopw [25] (λi wr=> ∃m:Nat,m<=5/\i= .int .i64 m/\eU W0 wr (w.heap.size+3) 134 .u64 (lU (ed a b (5*k+m)))) (λi _=>5 -(intOf i).toNat)
   case atStart=>exact⟨0,af,rfl,HU.o⟩
   case round=>
    obtain⟨m,hm,rfl,U⟩:=hrel;have I:=aa U;clear U
    by_cases h2:m<5
    .have i2:(m:Int)<5:=af;have g1:=vP z.o.len m h2 wr;have d1:(5*k+m)/5=k:=af;have d2:(5*k+m) %5=m:=af;have aF:=z.o.hi m;obtain⟨q,t⟩:=au (z.o.lo m);rw[t]at g1 aF;have A:=aa (show p<2251799813816320/\q<2251799813816320 from⟨bh.o,af⟩);have HQ:=aa t;clear aF t
     by_cases h3:k+m<5
     .have i3:(k:Int)+m<5:=af
      have ht:uk a b (5*k+m)=(p*q:Nat):=by
       unfold uk;rw[d1,d2,aJ h3,HP.o,HQ.o];simp
      have HT:=aa ht;have O:k+m=((5*k+m)/5+(5*k+m) %5) %5:=by rw[d1,d2];omega
      have HJ:=aa O;clear ht d1 d2 O
      go_wp2_with fail
      have HC:=aa (Bm I.o (k+m) h3 ((k+m)*2) (jt _ _));refine(yT (w.heap.size+3) ((k+m)*2) (ix (ed a b (5*k+m)) (k+m)).toNat p q (dp A.o) (dp A.o) (DY v.o z.o _ _ af _ _ HT.o) wr HC.o.1 HC.o.2 (I.o.frozen _) (I.o.frozen _)).mono ?_;rintro e w2 ⟨rfl,g⟩;have HN:=aa (show eU W0 w2 (w.heap.size+3) 134 .u64 (lU (ed a b (5*k+m+1)))from g▸DZ v.o z.o I.o (k+m) HJ.o ((k+m)*2) (jt _ _) p q HT.o);clear g
      go_wp2_with fail
      go_roundw
      case rel=>exact⟨m+1,af,by go_num,HN.o⟩
      case measure=>simp[intOf];omega
     .have i3:¬(k:Int)+m<5:=af
      have ht:uk a b (5*k+m)=(p*19*q:Nat):=by
       unfold uk;rw[d1,d2,aq h3,HP.o,HQ.o];simp
      have HT:=aa ht;have O:k+m -5=((5*k+m)/5+(5*k+m) %5) %5:=by rw[d1,d2];omega
      have HJ:=aa O;have HW:=aa (show IntKind.u64.wrap ((p:Int)*19)=((p*19:Nat):Int) by rw[bH];have:=A.o;omega);clear ht d1 d2 O
      go_wp2_with fail
      rw[HW.o];have HC:=aa (Bm I.o (k+m -5) af ((k+m -5)*2) (jt _ _));refine(yT (w.heap.size+3) ((k+m -5)*2) (ix (ed a b (5*k+m)) (k+m -5)).toNat (p*19) q (dp A.o) (dp A.o) (DY v.o z.o _ _ af _ _ HT.o) wr HC.o.1 HC.o.2 (I.o.frozen _) (I.o.frozen _)).mono ?_;rintro e w2 ⟨rfl,g⟩;have HN:=aa (show eU W0 w2 (w.heap.size+3) 134 .u64 (lU (ed a b (5*k+m+1)))from g▸DZ v.o z.o I.o (k+m -5) HJ.o ((k+m -5)*2) (jt _ _) (p*19) q HT.o);clear g
      go_wp2_with fail
      go_roundw
      case rel=>exact⟨m+1,af,by go_num,HN.o⟩
      case measure=>simp[intOf];omega
    .obtain rfl:m=5:=af
     go_wp2_with fail
     go_roundw
     case rel=>exact⟨k+1,af,by go_num,I.o⟩
     case measure=>simp[intOf];omega
  .obtain rfl:k=5:=af;have Z:=U;rw[show 5*5=25 from rfl]at Z;have d:=aa (lJ a b 25);have J:=aa (λi=>OU v.o z.o i);have bk:=aa (show mulL a b=bU [(dG (ed a b 25) 5*19+ix (iz (ed a b 25) 5) 0) %2251799813685248,ix (iz (ed a b 25) 5) 1+(dG (ed a b 25) 5*19+ix (iz (ed a b 25) 5) 0)/2251799813685248,ix (iz (ed a b 25) 5) 2,ix (iz (ed a b 25) 5) 3,ix (iz (ed a b 25) 5) 4]from rfl);generalize ed a b 25=S at*;have aK:=aa (U.below aB.o (Nat.le_add_right _ _) aB.o.size);have bl:=aa (U.other bd.o af);have aP:=aa Z.et;clear U Z HU H hk
   go_upto_region 14 with(fail)
   refine aU (λW=>Below w.heap.size w W/\Whole W (w.heap.size+2) 50 (ai .u64 [0,0,0,0,0])/\Whole W (w.heap.size+3) 134 (ai .u64 (lU S))/\Whole W wr.heap.size 50 (ai .u64 [0,0,0,0,0])) ⟨aK.o.alloc aK.o.size _,bl.o.alloc _,aP.o.alloc _,Whole.new rfl rfl⟩ ?_;intro W2 ⟨aS,aV,aX,a0⟩;have bm:=aa aS;have bn:=aa aV;have bo:=aa aX;have bp:=aa a0;have r:=aa (show w.heap.size+3<wr.heap.size from aP.o.inside);clear aS aV aX a0;generalize bq:wr.heap.size=go at*;clear bq
   go_wp2_with fail
   go_loopw [11,51] (λc i wr=> ∃k:Nat,k<=5/\i= .int .i64 k/\c= .int .u64 (dG S k)/\Below w.heap.size w wr/\Whole wr (w.heap.size+2) 50 (ai .u64 [0,0,0,0,0])/\Whole wr (w.heap.size+3) 134 (ai .u64 (lU (uM S k)))/\Whole wr go 50 (ai .u64 (Fj S k))) (λ_ i _=>5 -(intOf i).toNat)
   case atStart=>exact⟨0,af,rfl,rfl,bm.o,bn.o,bo.o,bp.o⟩
   case round=>
    obtain⟨k,hk,rfl,rfl,P,Q,kS,B⟩:=hrel;have KB:=aa P;have KR:=aa Q;have KS:=aa kS;have KO:=aa B;clear P Q kS B
    by_cases H:k<5
    .have i1:(k:Int)<5:=af;have a1:ix (uM S k) k=ix S k:=TJ S k (by rw[d.o];omega) k (ak _);have R:=aa (J.o k);obtain⟨s,hs⟩:=au (J.o k).1;obtain⟨c,F⟩:=au (J.o k).2.2.1;have HN:=aa (show s<=2408536140714026372772281712640000/\c<=1069604911625012000 by have:=R.o;omega);obtain⟨q0,V⟩:=xp (uM S k) k (by rw[kl,d.o];exact H);rw[a1,hs,cW]at q0 V;have hl:(lU (uM S k)).length=10:=by rw[sI,kl,d.o]
     have c0:=KS.o.int (2*k) af;have c1:=KS.o.int (2*k+1) af;rw[q0,jt 2 k]at c0;rw[V,jt 2 k]at c1;have f0:=KS.o.free (k*2);have f1:=KS.o.free (k*2+1);have M:=λW=>run_add64 (pP s) c 0 an W;rw[MK,show((0:Nat):Int)=0 from rfl]at M;have hv:=MJ s c (dp HN.o.2);rw[F];have HS:=aa hs;have HC:=aa F;have a2:=aa (by rw[uM,hs,F];congr 1:uM S (k+1)=(uM S k).set k ((s+c:Nat):Int));have br:=aa (by rw[Fj,hs,F];congr 1:Fj S (k+1)=(Fj S k).set k (((s+c) %2251799813685248:Nat):Int));have bs:=aa (by rw[dG,hs,F];omega:dG S (k+1)=(((s+c)/2251799813685248:Nat):Int));have ab:=aa (show s+c<41538374868278621028243970633760768 by have:=HN.o;omega);generalize aC (pP s) c 0=ov at*;generalize s+c=N at*
     have hw:IntKind.u64.wrap (((oU s:Nat):Int)+(ov:Int))=((oU N:Nat):Int):=by
      rw[bH,<-hv];have:oU N<18446744073709551616:=by have:=ab.o;unfold oU;omega
      omega
     clear a1 hs F q0 V hl hv R;generalize oU s=h at*;generalize pP s=l at*
     go_upto_region 21 with(fail)
     clear M hw;refine aU (λW=>Below w.heap.size w W/\Whole W (w.heap.size+2) 50 (ai .u64 [0,0,0,0,0])/\Whole W (w.heap.size+3) 134 (ai .u64 (lU (uM S (k+1))))/\Whole W go 50 (ai .u64 (Fj S k))) ?_ ?_
     .have G:wr.grownBy ((wr.setCell ⟨w.heap.size+3,k*2,none⟩ (.int .u64 (pP N:Nat))).setCell ⟨w.heap.size+3,k*2+1,none⟩ (.int .u64 (oU N:Nat))) (some (w.heap.size+3)):=aZ (aY _ rfl _) (aY _ rfl _);refine⟨KB.o.grown G KB.o.size (λq t=>by injection t with t;omega),KR.o.only G bj,?_,KO.o.only G (λe=>by injection e with e;have:=r.o;omega)⟩;rw[a2.o,<-yB _ _ _ (by rw[kl,d.o];exact H),cW,jt 2 k];exact(eU.set (eU.set (eU.start KS.o) _ _) _ _).et
     intro W3 ⟨P,Q,kS,B⟩;clear c0 c1 f0 f1;have hl:(lU (uM S (k+1))).length=10:=by rw[sI,kl,d.o]
     obtain⟨q0,V⟩:=xp (uM S (k+1)) k (by rw[kl,d.o];exact H);have hN:ix (uM S (k+1)) k=(N:Int):=by rw[a2.o,lW _ _ _ _ (by rw[kl,d.o];exact H),aJ rfl]
     rw[hN,cW]at q0 V;have c0:=kS.int (2*k) af;have c1:=kS.int (2*k+1) af;rw[q0,jt 2 k]at c0;rw[V,jt 2 k]at c1;have O:=Rb N ab.o;have hm:=Rt N
     have a3:IntKind.u64.wrap (((oU N:Nat):Int)*8192)=((oU N:Nat):Int)*8192:=by
      rw[bH];have:oU N*8192<18446744073709551616:=by have:=ab.o;unfold oU;omega
      omega
     have co:=B.int k (by rw[Ii];exact H);have fo:=B.free k;have a4:=aa P;have bt:=aa Q;have bw:=aa kS;have bx:=aa B;clear hl q0 V hN P Q kS B;generalize oU N=h at*;generalize pP N=l at*
     go_quiet (fail)
     go_wp2_with fail
     refine⟨⟨k+1,af,by go_num,by rw[bs.o];simp,?_⟩,by simp[intOf];omega⟩;have G:W3.grownBy ((W3.drewN nq).setCell ⟨go,k,none⟩ (.int .u64 ((N:Int) %2251799813685248))) (some go):=aZ (tX (ez _ _) _) (aY _ rfl _);refine⟨a4.o.grown G a4.o.size (λq t=>by injection t with t;have:=r.o;omega),bt.o.only G (λe=>by injection e with e;have:=r.o;omega),bw.o.only G (λe=>by injection e with e;have:=r.o;omega),?_⟩;rw[br.o,show(((N %2251799813685248:Nat)):Int)=(N:Int) %2251799813685248 by omega];exact(eU.set (eU.start (bx.o.drewN nq)) _ _).et
    .obtain rfl:k=5:=af;have ho:=KO.o;have KO:=0;rw[RU d.o]at ho;have ad:(iz S 5).length=5:=by rw[qM,d.o]
     have f:=P6 d.o;have a5:=(J.o 5).2.2;generalize a6:dG S 5=cc at*;generalize a7:iz S 5=o at*;have bG:=aa (And.intro a6 a7);obtain⟨c,F⟩:=au a5.1;obtain⟨K,e0⟩:=au (f 0 an).1;obtain⟨u,e1⟩:=au (f 1 an).1;have b0:=(f 0 an).2;have b1:=(f 1 an).2;have C:=aa (af:c<=1069604911625012000/\K<2251799813685248/\u<2251799813685248);have c0:=ho.int 0 af;have c1:=ho.int 1 af;have f0:=ho.free 0;have f1:=ho.free 1;rw[e0]at c0;rw[e1]at c1;rw[F];have M:=λW=>run_add64 (pP (c*19)) K 0 an W;rw[MK,show((0:Nat):Int)=0 from rfl]at M;have hv:=MJ (c*19) K (dp C.o)
     have X:=aa (show mulL a b=bU [(((c*19+K) %2251799813685248:Nat):Int),(u:Int)+(((c*19+K)/2251799813685248:Nat):Int),ix o 2,ix o 3,ix o 4] by
      rw[bk.o,F,e0,e1];congr 2)
     have HM:=aa (show c*19/18446744073709551616=oU (c*19)/\c*19 %18446744073709551616=pP (c*19)from⟨rfl,rfl⟩);have E:=aa (show c*19+K<41538374868278621028243970633760768/\(c*19+K)/2251799813685248<100000 by have:=C.o;omega);generalize aC (pP (c*19)) K 0=ov at*;generalize c*19+K=D at*
     have hw:IntKind.u64.wrap (((oU (c*19):Nat):Int)+(ov:Int))=((oU D:Nat):Int):=by
      rw[bH,<-hv];have:oU D<18446744073709551616:=by have:=E.o;unfold oU;omega
      omega
     have O:=Rb D E.o.1;have hm:=Rt D
     have a3:IntKind.u64.wrap (((oU D:Nat):Int)*8192)=((oU D:Nat):Int)*8192:=by
      rw[bH];have:oU D*8192<18446744073709551616:=by have:=E.o;unfold oU;omega
      omega
     have g:IntKind.u64.wrap ((u:Int)+((D/2251799813685248:Nat):Int))=(u:Int)+((D/2251799813685248:Nat):Int):=by
      rw[bH];have:=E.o;have:=C.o;omega
     have bz:=aa (show∀i,0<=ix [((D %2251799813685248:Nat):Int),(u:Int)+((D/2251799813685248:Nat):Int),ix o 2,ix o 3,ix o 4] i/\ix [((D %2251799813685248:Nat):Int),(u:Int)+((D/2251799813685248:Nat):Int),ix o 2,ix o 3,ix o 4] i<9223372036854775808 from λi=>by
      have V:=C.o;have q2:=E.o;have p2:=f 2 an;have p3:=f 3 an;have p4:=f 4 an
      match i with
      |0=>simp only[E3];omega
      |1=>simp only[E3];omega
      |2=>simp only[E3];omega
      |3=>simp only[E3];omega
      |4=>simp only[E3];omega
      |n+5=>exact⟨by simp[ix],by simp[ix]⟩)
     have a8:=aa (show(o.set 0 ((D %2251799813685248:Nat):Int)).set 1 ((u:Int)+((D/2251799813685248:Nat):Int))= [((D %2251799813685248:Nat):Int),(u:Int)+((D/2251799813685248:Nat):Int),ix o 2,ix o 3,ix o 4] by
      obtain⟨p0,p1,p2,p3,p4,rfl⟩:=qa ad
      rfl)
     have bI:=aa ad;have bA:=aa ho;have bB:=aa (show c<18446744073709551616 by have:=C.o;omega);clear f a5 a6 a7 F e0 e1 b0 b1 hv KO ho ad H;generalize bC:D/2251799813685248=D1 at*;generalize bE:D %2251799813685248=D0 at*;clear bC bE
     go_wp2_with fail
     refine(bits_Mul64 c 19 bB.o an _).mono ?_;rw[HM.o.1,HM.o.2];rintro e w1 ⟨rfl,rfl⟩;generalize oU (c*19)=hh at*;generalize pP (c*19)=ll at*;generalize oU D=h at*;generalize pP D=l at*
     go_upto_region 29 with(fail)
     clear M hw O hm a3 g c0 c1 f0 f1;refine aU (λW=>Below w.heap.size w W/\Whole W (w.heap.size+2) 50 (ai .u64 [0,0,0,0,0])/\Whole W go 50 (ai .u64 [(D0:Int),(u:Int)+(D1:Int),ix o 2,ix o 3,ix o 4])) ?_ ?_
     .have G:w1.grownBy ((w1.setCell ⟨go,0,none⟩ (.int .u64 (D0:Int))).setCell ⟨go,1,none⟩ (.int .u64 ((u:Int)+(D1:Int)))) (some go):=aZ (aY _ rfl _) (aY _ rfl _);refine⟨KB.o.grown G KB.o.size (λq t=>by injection t with t;have:=r.o;omega),KR.o.only G (λe=>by injection e with e;have:=r.o;omega),?_⟩;rw[<-a8.o];exact(eU.set (eU.set (eU.start bA.o) _ _) _ _).et
     intro W5 ⟨P,Q,B⟩;have aj:=dy v.o z.o;rw[X.o]at aj;have a9:=aa aj;have al:=aa (show[(D0:Int),(u:Int)+(D1:Int),ix o 2,ix o 3,ix o 4].length=5 from rfl);generalize[(D0:Int),(u:Int)+(D1:Int),ix o 2,ix o 3,ix o 4]=L at*;have l1:=(At.j B).R (m:=5) (by rw[ag,al.o]);have r1:=(At.j B).row (m:=5) (by rw[ag,al.o]);have ba:=aa P;have bb:=aa Q;clear P Q B aj
     go_wp2_with fail
     refine(lE L al.o bz.o _).mono ?_;rintro e w2 ⟨rfl,ao⟩;have hr:=bb.o.below ao bb.o.inside;have l2:=(At.j hr).R (m:=5) (by rw[ag];rfl);have ro:=bY .u64 (bU L) 5 a9.o.len;have bc:=aa (ba.o.trans (ao.mono ba.o.size));have bF:=aa hr;clear ao hr
     go_wp2_with fail
     refine ej rfl underlying50 rfl sW (w.heap.size+2) (ai .u64 (bU L)) _ rfl rfl bF.o (by rw[ag];rfl) (by rw[ag,a9.o.len]) ⟨by rw[X.o],?_⟩;exact bc.o.grown (aG _ _ _ _) bc.o.size (λk hk=>by injection hk with hk;omega)
end Go.Proofs.P
namespace Go.Spk
section
variable {P:Program}{ops:Array Oper}{md:Region.Mode}{S:Type}{Cl:S->World->Prop}{le:S->S->Prop}
def Tm(P:Program)(Cl:S->World->Prop)(le:S->S->Prop)(s:S)(K:Value->S->Prop):Result Next->Prop
 | .ok (.value u) b=> ∃a,le s a/\Cl a b/\K u a
 | .ok .skip b=> ∃a,le s a/\Cl a b/\K undef a
 | .ok (.enter f args) b=>Calls P f args b (λe c=> ∃v a,e= .returned v/\le s a/\Cl a c/\K v a)
 |_=>False
theorem I2{s}{K i}(h:∀v a,le s a->K v a->i v a){r}(c:Tm P Cl le s K r):Tm P Cl le s i r:=by
 cases r with
 |ok n k=>
  cases n<;>simp only[Tm]at c⊢
  case value u=>obtain⟨a,b,d,g⟩:=c;exact⟨a,b,d,h _ _ b g⟩
  case skip=>obtain⟨a,b,d,g⟩:=c;exact⟨a,b,d,h _ _ b g⟩
  case enter f args=>exact c.mono λe l ⟨v,a,b,j,d,g⟩=>⟨v,a,b,j,d,h _ _ j g⟩
 |halt x k=>simp only[Tm]at c
def Hw(P:Program)(ops:Array Oper)(Cl:S->World->Prop)(le:S->S->Prop)(i:Nat)(K:Act->S->Prop)(a:Act)(s:S):Prop:=
 match ops[i]? with
 |none=>K a s
 |some o=>if Region.wanted o (yielded ops a.tmps)then∀w,Cl s w->Tm P Cl le s (λv b=>K (a.put o.dst v) b) ((execOp a.eval o).run P w)else K (a.put o.dst undef) s
theorem Rr(b:∀s,le s s){i}{a}{s}{K g}(h:∀a d,le s d->K a d->g a d)(c:Hw P ops Cl le i K a s):Hw P ops Cl le i g a s:=by
 unfold Hw at*
 split
 .exact h _ _ (b s) (by simpa[*]using c)
 .rename_i o j;simp only[j]at c
  split
  .rename_i e;simp only[e,if_true]at c;exact λw f=>I2 (λv d k=>h _ _ k) (c w f)
  .rename_i e;simp only[e]at c;exact h _ _ (b s) c
def nI(P:Program)(md:Region.Mode)(ops:Array Oper)(Cl:S->World->Prop)(le:S->S->Prop)(Q:Act->S->Prop):Nat->Array Bool->Act->S->Prop
 |0,b,a,s=>Region.ready md ops b= []/\Q a s
 |fuel+1,b,a,s=>
  (Region.ready md ops b= []->Q a s)/\
  ∀i∈Region.ready md ops b,Hw P ops Cl le i (nI P md ops Cl le Q fuel (b.setIfInBounds i true)) a s
theorem Jd{i}{a}{s}{K}{q}{Q'}{w}(l:Cl s w)(h:∀a c k,Cl c k->K a c->q a k)(b:Hw P ops Cl le i K a s):wpOp P ops Q' i q a w:=by
 unfold Hw at b;unfold wpOp
 split
 .rename_i m;simp only[m]at b;exact h _ _ _ l b
 .rename_i o m;simp only[m]at b
  split
  .rename_i p;simp only[p,if_true]at b;refine .inl ?_;have d:=b w l;unfold Oper.wp;generalize(execOp a.eval o).run P w=r at*;cases r with
   |ok n k=>
    cases n<;>simp only[Tm]at d<;>simp only[Oper.upon]
    case value u=>obtain⟨c,_,g,j⟩:=d;exact h _ _ _ g j
    case skip=>obtain⟨c,_,g,j⟩:=d;exact h _ _ _ g j
    case enter f args=>exact d.mono λe t ⟨v,c,y,_,g,j⟩=>by subst y;exact h _ _ _ g j
   |halt x k=>simp only[Tm]at d
  .rename_i p;simp only[p]at b;exact h _ _ _ l b
theorem BL{Q:Act->S->Prop}{Q':Exit->Act->World->Prop}(c:∀a s w,Cl s w->Q a s->Q' .normal a w):∀(fuel:Nat) (listed:Array Bool) (a:Act) (s:S) (w:World),Cl s w->
 nI P md ops Cl le Q fuel listed a s->wpAny P md ops Q' fuel listed a w
 |0,_,_,_,_,b,h=>⟨h.1,c _ _ _ b h.2⟩
 |fuel+1,_,_,_,_,b,h=>⟨λe=>c _ _ _ b (h.1 e),λi f=>Jd b (λg j k d=>BL c fuel _ g j k d) (h.2 i f)⟩
def ke(P:Program)(ops:Array Oper)(Cl:S->World->Prop)(le:S->S->Prop)(s0:S)(o:Oper)(v:Value)(a:Act):Prop:=
 (Region.wanted o (yielded ops a.tmps)=true/\ ∀s,le s0 s-> ∀w,Cl s w->o.quietAt P a (Cl s) w v)\/
 (Region.wanted o (yielded ops a.tmps)=false/\v=undef)
theorem ke.Hw(b:∀s,le s s){i}{o}{v}{a}{s}(m:ops[i]?=some o)(p:ke P ops Cl le s o v a){K}(h:K (a.put o.dst v) s):Hw P ops Cl le i K a s:=by
 unfold Go.Spk.Hw;simp only[m];rcases p with⟨j,q⟩|⟨j,rfl⟩
 .simp only[j,if_true];intro w k;have c:=q s (b s) w k;unfold Oper.quietAt at c;generalize(execOp a.eval o).run P w=r at*;cases r with
  |ok n t=>
   cases n<;>simp only[Oper.quietUpon]at c<;>simp only[Tm]
   case value u=>obtain⟨d,l⟩:=c;subst d l;exact⟨s,b s,k,h⟩
   case skip=>obtain⟨d,l⟩:=c;subst d l;exact⟨s,b s,k,h⟩
   case enter f args=>obtain⟨d,y⟩:=c;subst d;exact y.mono λe z ⟨A,g⟩=>⟨v,s,A,b s,g,h⟩
  |halt x t=>simp only[Oper.quietUpon]at c
 .simp only[j,Bool.false_eq_true,if_false];exact h
theorem ke.of_same{s}{o}{v}{a a'}(b:ke P ops Cl le s o v a)(he:execOp a'.eval o=execOp a.eval o)
 (c:Region.wanted o (yielded ops a'.tmps)=Region.wanted o (yielded ops a.tmps)):ke P ops Cl le s o v a':=by
 unfold ke Oper.quietAt at*;rw[he,c];exact b
theorem ke.later(d:∀a b c,le a b->le b c->le a c){s s'}(hl:le s s'){o}{v}{a}(e:ke P ops Cl le s o v a):ke P ops Cl le s' o v a:=
 e.imp (λ⟨f,g⟩=>⟨f,λt h=>g t (d _ _ _ hl h)⟩) id
theorem Vz(i:∀s,le s s)(k:∀a b c,le a b->le b c->le a c){j}{d e}{v}(A:ops[j]?=some e)(l:d.apart ops e=true)
 (m:∀n b,d.op≠ .select n b) (o:∀n b,e.op≠ .select n b) {K} {a} {s}
 (g:ke P ops Cl le s d v a) (h:Hw P ops Cl le j K (a.put d.dst v) s):
 Hw P ops Cl le j (λr p=>ke P ops Cl le p d v r/\K (r.put d.dst v) p) a s:=by
 obtain⟨t,x,y⟩:=jZ l
 have f:∀(a:Act),ke P ops Cl le s d v a-> ∀u,ke P ops Cl le s d v (a.put e.dst u):=λa g u=>
  g.of_same (execOp_put d m a e.dst u y) (wanted_put d a e.dst u y)
 unfold Hw at*;simp only[A]at*;rw[wanted_put e a d.dst v t]at h
 split
 .rename_i q;simp only[q,if_true]at h;intro w B;have z:=h w B;rw[execOp_put e o a d.dst v t]at z;exact I2 (λu p C D=>⟨(f a g u).later k C,by rw[<-vp a v u x];exact D⟩) z
 .rename_i q;simp only[q]at h;exact⟨f a g _,by rw[<-vp a v undef x];exact h⟩
theorem xE(d:∀s,le s s)(F:∀a b c,le a b->le b c->le a c){Q}{i}{w}{v}(G:ops[i]?=some w)(n:∀(j:Nat) (o:Oper) x b,ops[j]?=some o->o.op≠ .select x b):
 ∀(f:Nat) (listed:rX) (a:Act) (s:S),
  (∀j q,ops[j]?=some q->j≠i->listed.getD j true=false->(∀e∈q.after,Region.binds md e=true->e.on≠i)->w.apart ops q=true)->
  i∈Region.ready md ops listed->ke P ops Cl le s w v a->
  nI P md ops Cl le Q f (listed.setIfInBounds i true) (a.put w.dst v) s->nI P md ops Cl le Q (f+1) listed a s:=by
 intro f
 induction f with
 |zero=>
  intro listed a s _ r D H;refine⟨λh=>(by rw[h]at r;cases r),λj E=> ?_⟩
  by_cases g:j=i
  .subst g;exact D.Hw d G H
  .have:=j0 E g;rw[H.1]at this;cases this
 |succ f O=>
  intro listed a s l r D H;refine⟨λh=>(by rw[h]at r;cases r),λj E=> ?_⟩
  by_cases g:j=i
  .subst g;exact D.Hw d G H
  .have t:=H.2 j (j0 E g);obtain⟨p,q,u,y⟩:=dj.1 E
   have z:∀e∈q.after,Region.binds md e=true->e.on≠i:=λe R U I=>by
    have t:=y e R U;have M:=(dj.1 r).1;rw[I]at t;rcases Nat.lt_or_ge i listed.size with J|J
    .simp[J]at M t;rw[M]at t;cases t
    .simp[Array.getElem?_eq_none J]at t
   have V:=Vz d F u (l j q u g p z) (λx b=>n i w x b G) (λx b=>n j q x b u) D t
   have m:∀k A,ops[k]?=some A->k≠i->(listed.setIfInBounds j true).getD k true=false->
    (∀e∈A.after,Region.binds md e=true->e.on≠i)->w.apart ops A=true:=λk A W K B L=>by
    refine l k A W K ?_ L
    by_cases C:j=k
    .subst C;exact p
    .rw[qZ true C]at B;exact B
   refine Rr d (λX Y Z N=>O (listed.setIfInBounds j true) X Y m (j0 r (gT g)) N.1 ?_) V;rw[td _ _ g];exact N.2
def Eo(md:Region.Mode)(ops:Array Oper)(listed:Array Bool)(i:Nat):Bool:=Region.noSelect ops&&(Region.ready md ops listed).contains i&&Region.free md ops listed i
def Sl(P:Program)(Cl:S->World->Prop)(le:S->S->Prop)(s:S)(o:Oper)(a:Act)(next:Act->Prop):Prop:= ∃v,(∀b,le s b-> ∀w,Cl b w->o.quietAt P a (Cl b) w v)/\next (a.put o.dst v)
theorem gL(e:∀s,le s s)(f:∀a b c,le a b->le b c->le a c){Q}{d}{listed}{a}{s}(i:Nat){o}(g:ops[i]?=some o)(l:Eo md ops listed i=true)
 (h:∀K:Act->Prop,(∀m,nI P md ops Cl le Q d (listed.setIfInBounds i true) m s->K m)->if Region.wanted o (yielded ops a.tmps)then Sl P Cl le s o a K else K (a.put o.dst undef)):nI P md ops Cl le Q (d+1) listed a s:=by
 simp only[Eo,Bool.and_eq_true]at l;obtain⟨⟨n,p⟩,q⟩:=l;have j:=h _ (λ_ h=>h)
 by_cases k:Region.wanted o (yielded ops a.tmps)=true
 .rw[aJ k]at j;obtain⟨v,r,t⟩:=j;exact xE e f g (mU n) d listed a s (Region.free_spec g q) (ek p) (.inl ⟨k,r⟩) t
 .rw[aq k]at j;exact xE e f g (mU n) d listed a s (Region.free_spec g q) (ek p) (.inr ⟨by simpa using k,rfl⟩) j
theorem jl{s}{o}{a}{K}{b}(d:Region.wanted o (yielded ops a.tmps)=true)(h:∃v,(∀c,le s c-> ∀w,Cl c w->o.quietAt P a (Cl c) w v)/\K (a.put o.dst v)):
 if Region.wanted o (yielded ops a.tmps)then Sl P Cl le s o a K else K b:=by
 rw[aJ d];exact h
theorem rJ{Q}{b}{listed}{a}{s}(c:iT)(e:Region.ready md ops listed=c)(d:c.isEmpty=false)(h:∀i∈c,Hw P ops Cl le i (nI P md ops Cl le Q b (listed.setIfInBounds i true)) a s):nI P md ops Cl le Q (b+1) listed a s:=
 ⟨λf=>(by rw[e]at f;subst f;cases d),e▸h⟩
theorem oz{i}{o}{K}{a}{s}(d:ops[i]?=some o)(e:Region.wanted o (yielded ops a.tmps)=true)
 (h:∀b:Value->S->Prop,(∀v c,K (a.put o.dst v) c->b v c)-> ∀w,Cl s w->Tm P Cl le s b ((execOp a.eval o).run P w)):Hw P ops Cl le i K a s:=by
 unfold Hw;simp only[d,e,if_true];exact h _ (λ_ _ h=>h)
theorem uH{s}{K}{r}(u:cH)(W:ay)(s':S)(a:r= .ok (.value u) W)(hl:le s s')(b:Cl s' W)(c:K u s'):Tm P Cl le s K r:=by
 subst a;exact⟨s',hl,b,c⟩
theorem qr{s}{K}{r}(f:FuncId)(args:gJ)(W:ay)(c:r= .ok (.enter f args) W)(d:Calls P f args W (λe a=> ∃v b,e= .returned v/\le s b/\Cl b a/\K v b)):Tm P Cl le s K r:=by
 subst c;exact d
theorem DK{Q}{listed}{a}{s}(b:Region.ready md ops listed= [])(h:Q a s):nI P md ops Cl le Q 0 listed a s:=⟨b,h⟩
theorem jq{id}{Q}{a}{w}{l:List Oper}(Cl:S->World->Prop)(le:S->S->Prop)(s:S)(hm:P.follows .mixedOrders=true)(b:Cl s w.drew)
 (h:nI P .any l.toArray Cl le (λa s=> ∀w,Cl s w->Q .normal a w) l.length (Array.replicate l.length false) a s):(Code.region id l.toArray true).wp P Q a w:=by
 refine wp_region_any hm (BL (Cl:=Cl) (le:=le) (Q:=λa s=> ∀w,Cl s w->Q .normal a w) (λa s w c h=>h w c) _ _ _ s _ b ?_);have e:l.toArray.size=l.length:=bj;rw[e];exact h
end
structure Kn where
 kn:List (Nat×TypeId×Array Value)
 mu:Option (Nat×TypeId×Array Value)
def Kn.C(w:World)(s:Kn)(W:World):Prop:=
 Below w.heap.size w W/\(∀x∈s.kn,w.heap.size<=x.1/\Whole W x.1 x.2.1 x.2.2)/\(∀x,s.mu=some x->w.heap.size<=x.1/\Whole W x.1 x.2.1 x.2.2/\ ∀y∈s.kn,y.1≠x.1)
def Kn.le(s t:Kn):Prop:= ∀x∈s.kn,x∈t.kn
theorem Kn.le_refl(s:Kn):Kn.le s s:=λ_ h=>h
theorem Kn.le_trans(a b c:Kn)(h:Kn.le a b)(k:Kn.le b c):Kn.le a c:=λx d=>k x (h x d)
theorem Kn.start(w:ay):Kn.C w ⟨[],none⟩ w.drew:=⟨bA (aw _ w) 1,λx a=>by simp at a,λx a=>by cases a⟩
theorem Kn.C.base{w W}{s}(h:Kn.C w s W):Below w.heap.size w W:=h.1
theorem Kn.C.iC{w W W'}{s}(h:Kn.C w s W)(b:Below W.heap.size W W'):Kn.C w s W':=
 ⟨h.1.trans (b.mono h.1.size),λx a=>⟨(h.2.1 x a).1,(h.2.1 x a).2.below b (h.2.1 x a).2.inside⟩,λx a=>⟨(h.2.2 x a).1,(h.2.2 x a).2.1.below b (h.2.2 x a).2.1.inside,(h.2.2 x a).2.2⟩⟩
theorem Kn.C.at_{w W}{s}(h:Kn.C w s W){g}{t}{cs}(a:(g,t,cs)∈s.kn):Whole W g t cs:=(h.2.1 _ a).2
theorem Kn.C.add{w W W'}{s}(h:Kn.C w s W)(d:Below W.heap.size W W'){g}{t}{cs}(e:W.heap.size<=g)(f:Whole W' g t cs):Kn.C w ⟨(g,t,cs)::s.kn,s.mu⟩ W':=by
 have b:=h.iC d;refine⟨b.1,λx a=> ?_,λx a=>⟨(b.2.2 x a).1,(b.2.2 x a).2.1,λy c=> ?_⟩⟩
 .rcases dz.1 a with rfl|a
  .exact⟨ap h.1.size e,f⟩
  .exact b.2.1 x a
 .rcases dz.1 c with rfl|c
  .have:=(h.2.2 x a).2.1.inside;show g≠x.1;omega
  .exact(b.2.2 x a).2.2 y c
theorem Kn.C.put{w W}{c}{g}{t}{d cs}(h:Kn.C w ⟨c,some (g,t,d)⟩ W)(k:cs.size=d.size):Kn.C w ⟨c,some (g,t,cs)⟩ (W.setCells g 0 cs.toList):=by
 obtain⟨e,f,l⟩:=h;obtain⟨k1,m,i⟩:=l _ rfl;have j:=aG g cs.toList 0 W;refine⟨e.grown j e.size (λq b=>by injection b with b;subst b;exact k1),λx a=>⟨(f x a).1,(f x a).2.only j (bE (i x a))⟩,λx a=> ?_⟩;injection a with a;subst a;exact⟨k1,m.fill k,i⟩
section
variable {S:Type}{P:Program}{md:Region.Mode}{ops:Array Oper}{Cl:S->World->Prop}{le:S->S->Prop}
theorem tp(e:∀s,le s s)(f:∀a b c,le a b->le b c->le a c){Q}{d}{listed}{a}{s}(i:Nat)(v:cH){o}{a'}{j}
 (h:nI P md ops Cl le Q d j a' s)
 (k:ops[i]?=some o:=by rfl) (l:Eo md ops listed i=true:=by kernel_rfl) (m:Region.wanted o (yielded ops a.tmps)=true:=by kernel_rfl)
 (hq:∀g,le s g-> ∀W,Cl g W->o.quietAt P a (Cl g) W v:=by(intros;refine aD ?_;go_simp))
 (n:a.put o.dst v=a':=by(go_simp;rfl)) (hl:listed.setIfInBounds i true=j:=by rfl):nI P md ops Cl le Q (d+1) listed a s:=by
 subst n hl;exact gL e f i k l (λK p=>jl m ⟨v,hq,p _ h⟩)
theorem Pf(e:∀s,le s s)(f:∀a b c,le a b->le b c->le a c){Q}{d}{listed}{a}{s}(i:Nat)(v:cH){o}{a'}{j}
 (hq:∀g,le s g-> ∀W,Cl g W->o.quietAt P a (Cl g) W v) (h:nI P md ops Cl le Q d j a' s)
 (k:ops[i]?=some o:=by rfl) (l:Eo md ops listed i=true:=by kernel_rfl) (m:Region.wanted o (yielded ops a.tmps)=true:=by kernel_rfl)
 (n:a.put o.dst v=a':=by(go_simp;rfl)) (hl:listed.setIfInBounds i true=j:=by rfl):nI P md ops Cl le Q (d+1) listed a s:=by
 subst n hl;exact gL e f i k l (λK p=>jl m ⟨v,hq,p _ h⟩)
end
end Go.Spk
namespace Go.Proofs.YtcjcibnggioknaaGreatDoor
open Go.Proofs.P
open Go.ChangeShapes Go.WideShapes Go.ChangeAt
theorem own:ownKnob prog.godebug=none:=al
theorem QK:prog.globalNamed "speakeasy/chacha.begin"=some 25:=al
theorem UO:(prog.globals[25]?).map (·.type)=some 317:=al
theorem QX:prog.globalNamed "speakeasy/chacha.order"=some 26:=al
theorem UU:(prog.globals[26]?).map (·.type)=some 320:=al
theorem Yi:prog.cellsOf 317=4:=al
theorem Yl:prog.cellsOf 320=32:=al
theorem Ur:prog.cellsOf 319=4:=al
theorem Yn:prog.cellsOf 3=1:=al
theorem Us:prog.cellsOf 147=1:=al
theorem Ma:prog.cellsOf 5=1:=al
theorem L9:prog.cellsOf 22=32:=al
def aa2:List (List Int):= [[0,4,8,12],[1,5,9,13],[2,6,10,14],[3,7,11,15],[0,5,10,15],[1,6,11,12],[2,7,8,13],[3,4,9,14]]
theorem PN{rest}{W}(h:laidMet prog (("speakeasy/chacha.begin",Rows.laid_speakeasy_chacha_begin)::rest) W):W.rangeAt 25 0 (fG.map (Value.int .u32)):=by
 have a:Lib.TabIs prog W "speakeasy/chacha.begin" .u32 fG:=Lib.tabIs_of_head (rest:=rest) QK UO underlying317 underlying147 Us Yi h;intro j v b;have:=World.var?_cell QK a j;rw[aW,this];simpa[Function.comp_def]using b
theorem RQ{n}{d}{rest}{W}(h:laidMet prog ((n,d)::("speakeasy/chacha.order",Rows.laid_speakeasy_chacha_order)::rest) W):W.rangeAt 26 0 j9:=by
 obtain⟨u,⟨_,_,_,_,_,_,_,_,_,_,a,_⟩,_⟩:=h;obtain⟨w,x,o,b,p,q,e,f,c,g,_,_⟩:=a;obtain rfl:=iU (QX.symm.trans e);obtain rfl:=iU (UU.symm.trans f);have k:DataW.trod (λ_=>()) prog W 0 (λ_=>true) false b 320 o.toList=some (.agg (aa2.map λr=> .agg (r.map λz=> .lit (.int .i64 z))),p):=g;obtain⟨y,s⟩:=Ch underlying320 underlying319 underlying3 Yn Ur Yl rfl k;intro j v m;rw[aW,World.var?_cell QX c j,<-m]
 have t:j<32:=by
  have:=(aI.1 m).1;simpa[j9,RO]using this
 have l:=aA (·[j %4]?) (s (j/4) af);simp only[List.getElem?_take,List.getElem?_drop]at l;rw[aJ af,show j/4*4+j %4=j by omega]at l;rw[<-Array.getElem?_toList,l];have g:∀i,i<32->(aa2.getD (i/4) [])[i %4]?=(RO.map λ(n:Nat)=>(n:Int))[i]?:=by decide+kernel
 rw[bi,g j t,<-bi,List.map_map]
 rfl
end Go.Proofs.YtcjcibnggioknaaGreatDoor
namespace Go.Proofs.P
open Go.ChangeShapes Go.WideShapes Go.ChangeAt
theorem XO: "*"++ "errors.errorString"= "*errors.errorString":=an
theorem acg(u:fg)(h:prog.typeName? 3 u=some "*errors.errorString"):u=356:=
 typeName_ptr_named (nm:= "errors.errorString") (by rw[XO];kernel_rfl) al an u (by rw[XO];exact h)
theorem Yj:prog.cellsOf 374=1:=al
theorem Ym:prog.cellsOf 9=1:=al
theorem UP:prog.globalNamed "speakeasy/api.ErrArg"=some 0:=al
theorem WF:(prog.globals[0]?).map (·.type)=some 27:=al
theorem UR:prog.globalNamed "speakeasy/api.ErrEnd"=some 1:=al
theorem WI:(prog.globals[1]?).map (·.type)=some 27:=al
theorem QN:prog.globalNamed "speakeasy/api.ErrForm"=some 2:=al
theorem SS:(prog.globals[2]?).map (·.type)=some 27:=al
theorem UQ:prog.globalNamed "speakeasy/api.ErrBig"=some 3:=al
theorem WG:(prog.globals[3]?).map (·.type)=some 27:=al
theorem UT:prog.globalNamed "speakeasy/api.ErrMac"=some 4:=al
theorem WK:(prog.globals[4]?).map (·.type)=some 27:=al
theorem N1:prog.globalNamed "speakeasy/api.ErrState"=some 5:=al
theorem OW:(prog.globals[5]?).map (·.type)=some 27:=al
theorem QO:prog.globalNamed "speakeasy/api.ErrFull"=some 6:=al
theorem SU:(prog.globals[6]?).map (·.type)=some 27:=al
theorem QV:prog.globalNamed "speakeasy/api.ErrNone"=some 7:=al
theorem Ta:(prog.globals[7]?).map (·.type)=some 27:=al
theorem QQ:prog.globalNamed "speakeasy/api.ErrHave"=some 8:=al
theorem SX:(prog.globals[8]?).map (·.type)=some 27:=al
theorem US:prog.globalNamed "speakeasy/api.ErrKey"=some 9:=al
theorem WJ:(prog.globals[9]?).map (·.type)=some 27:=al
theorem QW:prog.globalNamed "speakeasy/api.ErrSign"=some 10:=al
theorem Tb:(prog.globals[10]?).map (·.type)=some 27:=al
theorem GN:prog.globalNamed "speakeasy/api.ErrVersion"=some 11:=al
theorem IS:(prog.globals[11]?).map (·.type)=some 27:=al
theorem QL:prog.globalNamed "speakeasy/api.ErrAlgo"=some 12:=al
theorem SQ:(prog.globals[12]?).map (·.type)=some 27:=al
theorem QR:prog.globalNamed "speakeasy/api.ErrHost"=some 13:=al
theorem SY:(prog.globals[13]?).map (·.type)=some 27:=al
theorem QM:prog.globalNamed "speakeasy/api.ErrAuth"=some 14:=al
theorem SR:(prog.globals[14]?).map (·.type)=some 27:=al
theorem NZ:prog.globalNamed "speakeasy/api.ErrQuota"=some 15:=al
theorem OV:(prog.globals[15]?).map (·.type)=some 27:=al
theorem QU:prog.globalNamed "speakeasy/api.ErrName"=some 16:=al
theorem S9:(prog.globals[16]?).map (·.type)=some 27:=al
theorem QP:prog.globalNamed "speakeasy/api.ErrGone"=some 17:=al
theorem SW:(prog.globals[17]?).map (·.type)=some 27:=al
theorem J4:prog.globalNamed "speakeasy/api.ErrWindow"=some 18:=al
theorem Lz:(prog.globals[18]?).map (·.type)=some 27:=al
theorem QT:prog.globalNamed "speakeasy/api.ErrKind"=some 19:=al
theorem SZ:(prog.globals[19]?).map (·.type)=some 27:=al
noncomputable def low:Nat:=(World.holding prog default ⟨#[],#[],[]⟩).heap.size
noncomputable def GE(a:Os):World:=
 let w:=World.holding prog a ⟨#[.cells #[.string ⟨#[97,110,32,97,114,103,117,109,101,110,116,32,116,104,97,116,32,109,97,121,32,110,111,116,32,98,101]⟩] 374,.cells #[.string ⟨#[98,121,116,101,115,32,97,114,101,32,119,97,110,116,105,110,103]⟩] 374,.cells #[.string ⟨#[98,121,116,101,115,32,116,104,97,116,32,115,97,121,32,110,111,116,104,105,110,103]⟩] 374,.cells #[.string ⟨#[109,111,114,101,32,116,104,97,110,32,116,104,101,114,101,32,109,97,121,32,98,101]⟩] 374,.cells #[.string ⟨#[97,32,115,117,109,32,116,104,97,116,32,100,111,101,115,110,39,116,32,102,105,116]⟩] 374,.cells #[.string ⟨#[110,111,116,32,110,111,119]⟩] 374,.cells #[.string ⟨#[116,104,101,114,101,32,105,115,32,110,111,32,114,111,111,109]⟩] 374,.cells #[.string ⟨#[116,104,101,114,101,32,105,115,32,110,111,110,101]⟩] 374,.cells #[.string ⟨#[105,116,32,105,115,32,116,104,101,114,101,32,97,108,114,101,97,100,121]⟩] 374,.cells #[.string ⟨#[97,32,107,101,121,32,116,104,97,116,32,109,97,121,32,110,111,116,32,98,101]⟩] 374,.cells #[.string ⟨#[97,32,115,105,103,110,97,116,117,114,101,32,116,104,97,116,32,100,111,101,115,110,39,116,32,102,105,116]⟩] 374,.cells #[.string ⟨#[97,110,111,116,104,101,114,32,118,101,114,115,105,111,110]⟩] 374,.cells #[.string ⟨#[110,111,116,104,105,110,103,32,105,110,32,99,111,109,109,111,110]⟩] 374,.cells #[.string ⟨#[97,110,111,116,104,101,114,32,104,111,115,116,39,115,32,107,101,121]⟩] 374,.cells #[.string ⟨#[105,116,32,109,97,121,32,110,111,116,32,99,111,109,101,32,105,110]⟩] 374,.cells #[.string ⟨#[109,111,114,101,32,116,104,97,110,32,105,116,115,32,115,104,97,114,101]⟩] 374,.cells #[.string ⟨#[97,32,110,97,109,101,32,116,104,97,116,32,109,97,121,32,110,111,116,32,98,101]⟩] 374,.cells #[.string ⟨#[105,116,32,105,115,32,103,111,110,101]⟩] 374,.cells #[.string ⟨#[98,101,121,111,110,100,32,116,104,101,32,119,105,110,100,111,119]⟩] 374,.cells #[.string ⟨#[116,104,101,114,101,32,105,115,32,110,111,32,115,117,99,104,32,107,105,110,100]⟩] 374],#[],[]⟩
 {w with heap:=(((((((((((((((((((((w.heap.modify 25 (dO #[.int .u32 1634760805,.int .u32 857760878,.int .u32 2036477234,.int .u32 1797285236])).modify 26 (dO j9.toArray)).modify 0 (dO #[.iface 356 (.pointer (some ⟨low+0,0,none⟩))])).modify 1 (dO #[.iface 356 (.pointer (some ⟨low+1,0,none⟩))])).modify 2 (dO #[.iface 356 (.pointer (some ⟨low+2,0,none⟩))])).modify 3 (dO #[.iface 356 (.pointer (some ⟨low+3,0,none⟩))])).modify 4 (dO #[.iface 356 (.pointer (some ⟨low+4,0,none⟩))])).modify 5 (dO #[.iface 356 (.pointer (some ⟨low+5,0,none⟩))])).modify 6 (dO #[.iface 356 (.pointer (some ⟨low+6,0,none⟩))])).modify 7 (dO #[.iface 356 (.pointer (some ⟨low+7,0,none⟩))])).modify 8 (dO #[.iface 356 (.pointer (some ⟨low+8,0,none⟩))])).modify 9 (dO #[.iface 356 (.pointer (some ⟨low+9,0,none⟩))])).modify 10 (dO #[.iface 356 (.pointer (some ⟨low+10,0,none⟩))])).modify 11 (dO #[.iface 356 (.pointer (some ⟨low+11,0,none⟩))])).modify 12 (dO #[.iface 356 (.pointer (some ⟨low+12,0,none⟩))])).modify 13 (dO #[.iface 356 (.pointer (some ⟨low+13,0,none⟩))])).modify 14 (dO #[.iface 356 (.pointer (some ⟨low+14,0,none⟩))])).modify 15 (dO #[.iface 356 (.pointer (some ⟨low+15,0,none⟩))])).modify 16 (dO #[.iface 356 (.pointer (some ⟨low+16,0,none⟩))])).modify 17 (dO #[.iface 356 (.pointer (some ⟨low+17,0,none⟩))])).modify 18 (dO #[.iface 356 (.pointer (some ⟨low+18,0,none⟩))])).modify 19 (dO #[.iface 356 (.pointer (some ⟨low+19,0,none⟩))])}
end Go.Proofs.P
namespace Go.Spk
structure Sg where
 kn:List (Nat×TypeId×Array Value)
 mu:Option (Nat×TypeId×Array Value)
 ps:List (List Value)
def Sg.C(w:World)(g:Nat)(T:TypeId)(s:Sg)(W:World):Prop:=
 ci [g] w W/\Lay W g T s.ps/\g<w.heap.size/\(∀x∈s.kn,w.heap.size<=x.1/\Whole W x.1 x.2.1 x.2.2)/\(∀x,s.mu=some x->w.heap.size<=x.1/\Whole W x.1 x.2.1 x.2.2/\ ∀y∈s.kn,y.1≠x.1)
def Sg.le(M:List Nat)(s t:Sg):Prop:=(∀x∈s.kn,x∈t.kn)/\t.ps.map List.length=s.ps.map List.length/\ ∀i,i∉M->t.ps[i]?=s.ps[i]?
theorem Sg.le_refl(M:iT)(s:Sg):Sg.le M s s:=⟨λ_ h=>h,rfl,λ_ _=>rfl⟩
theorem Sg.le_trans(M:iT)(a b c:Sg)(h:Sg.le M a b)(k:Sg.le M b c):Sg.le M a c:=⟨λx e=>k.1 x (h.1 x e),k.2.1.trans h.2.1,λi d=>(k.2.2 i d).trans (h.2.2 i d)⟩
section
variable {w W W':World}{g:Nat}{T:TypeId}{s t:Sg}{M:List Nat}
theorem Sg.C.iC(h:Sg.C w g T s W)(b:Below W.heap.size W W'):Sg.C w g T s W':=by
 obtain⟨f,e,i,d,c⟩:=h;exact⟨f.trans (ci.cL b []) (λm j=>by cases j),e.below b e.inside,i,λx a=>⟨(d x a).1,(d x a).2.below b (d x a).2.inside⟩,λx a=>⟨(c x a).1,(c x a).2.1.below b (c x a).2.1.inside,(c x a).2.2⟩⟩
theorem Sg.C.base(h:Sg.C w g T s W):ci [g] w W:=h.1
theorem Sg.C.lay(h:Sg.C w g T s W):Lay W g T s.ps:=h.2.1
theorem Sg.C.size(h:Sg.C w g T s W):w.heap.size<=W.heap.size:=h.1.size
theorem Sg.C.at_(h:Sg.C w g T s W){b}{t}{cs}(a:(b,t,cs)∈s.kn):Whole W b t cs:=(h.2.2.2.1 _ a).2
theorem Sg.C.cell(h:Sg.C w g T t W)(hl:Sg.le M s t)(L:iT)(a:s.ps.map List.length=L)(i j o:Nat){p}{v}(b:i∉M)(c:kj L i+j=o)(d:s.ps[i]?=some p)(hv:p[j]?=some v):W.cell? ⟨g,o,none⟩=some v:=
 h.2.1.cell i j o (by rw[hl.2.1,a];exact c) ((hl.2.2 i b).trans d) hv
theorem Sg.C.row(h:Sg.C w g T t W)(hl:Sg.le M s t)(L:iT)(a:s.ps.map List.length=L)(i o:Nat){p}(b:i∉M)(c:kj L i=o)(d:s.ps[i]?=some p):At W g o p.toArray:=
 h.2.1.part i o p (by rw[hl.2.1,a];exact c) ((hl.2.2 i b).trans d)
theorem Sg.C.put{d}{ps}{b}{t}{e cs}(h:Sg.C w g T ⟨d,some (b,t,e),ps⟩ W)(i:cs.size=e.size):Sg.C w g T ⟨(b,t,cs)::d,none,ps⟩ (W.setCells b 0 cs.toList):=by
 obtain⟨j,k,l,f,n⟩:=h;obtain⟨k1,o,p⟩:=n _ rfl;have c:=aG b cs.toList 0 W;refine⟨j.trans (ci.bZ c) (λm q=> .inr (by obtain rfl:=List.mem_singleton.1 q;exact k1)),k.only c (bE (show g≠b by have:=k1;dsimp only at this;omega)),l,λx a=> ?_,λx a=>by cases a⟩;rcases List.mem_cons.1 a with rfl|a
 .exact⟨k1,o.fill i⟩
 .exact⟨(f x a).1,(f x a).2.only c (bE (p x a))⟩
theorem Sg.C.set(h:Sg.C w g T s W)(L:iT)(e:s.ps.map List.length=L)(i o:Nat)(p q:gF)(f:kj L i=o)(j:s.ps[i]?=some p)(hl:p.length=q.length):Sg.C w g T ⟨s.kn,s.mu,s.ps.set i q⟩ (W.setCells g o q):=by
 obtain⟨k,l,n,c,b⟩:=h;have d:=aG g q o W
 exact⟨k.trans (ci.bZ d) (λm r=> .inl r),l.set i o p q (by rw[e];exact f) j hl,n,
  λx a=>⟨(c x a).1,(c x a).2.only d (bE (show x.1≠g by have:=(c x a).1;omega))⟩,
  λx a=>⟨(b x a).1,(b x a).2.1.only d (bE (show x.1≠g by have:=(b x a).1;omega)),(b x a).2.2⟩⟩
end
structure Kp where
 p:World->Prop
 up:∀W W',p W->Below W.heap.size W W'->p W'
def Kp.C(w:World)(s:Kp)(W:World):Prop:=Below w.heap.size w W/\s.p W
def Kp.le(s t:Kp):Prop:= ∀W,t.p W->s.p W
def Kp.any:Kp:=⟨λ_=>True,λ_ _ _ _=>trivial⟩
theorem Kp.le_refl(s:Kp):Kp.le s s:=λ_ h=>h
theorem Kp.le_trans(a b c:Kp)(h:Kp.le a b)(k:Kp.le b c):Kp.le a c:=λW d=>h W (k W d)
theorem Kp.C.iC{w W W'}{s}(h:Kp.C w s W)(a:Below W.heap.size W W'):Kp.C w s W':=⟨h.1.trans (a.mono h.1.size),s.up W W' h.2 a⟩
def FN(g:Nat)(t:TypeId)(n:Nat)(W:World):Prop:= ∃a:Array Value,a.size=n/\Whole W g t a
theorem FN.up(g:Nat)(t:fg)(n:Nat)(W W':ay)(h:FN g t n W)(b:Below W.heap.size W W'):FN g t n W':=by
 obtain⟨c,d,a⟩:=h;exact⟨c,d,a.below b a.inside⟩
theorem Whole.up(g:Nat)(t:fg)(cs:gJ)(W W':ay)(h:Whole W g t cs)(a:Below W.heap.size W W'):Whole W' g t cs:=h.below a h.inside
def XW(g o:Nat)(cs:Array Value)(W:World):Prop:=At W g o cs/\g<W.heap.size
theorem XW.up(g o:Nat)(cs:gJ)(W W':ay)(h:XW g o cs W)(a:Below W.heap.size W W'):XW g o cs W':=⟨h.1.below a h.2,aL h.2 a.size⟩
def Mk1(w:World)(s:Kp)(g:Nat)(t:TypeId)(n:Nat)(W:World):Prop:= ∃a,s.p a/\Below w.heap.size w a/\a.heap.size=g/\Below g a W/\FN g t n W
theorem Mk1.up(w:ay)(s:Kp)(g:Nat)(t:fg)(n:Nat)(W W':ay)(h:Mk1 w s g t n W)(a:Below W.heap.size W W'):Mk1 w s g t n W':=by
 obtain⟨d,e,f,b,c,i⟩:=h;exact⟨d,e,f,b,c.trans (a.mono (by subst b;exact c.size)),i.up g t n W W' a⟩
def Jh(g:Nat)(T:TypeId)(xs:List Int)(W:World):Prop:= ∃m a,rY W g T m (xs++a)
theorem Jh.up(g:Nat)(T:fg)(xs:aR)(W W':ay)(h:Jh g T xs W)(a:Below W.heap.size W W'):Jh g T xs W':=by
 obtain⟨m,b,h⟩:=h;exact⟨m,b,(a.block g h.inside).trans h.1,h.2⟩
theorem Jh.only{g g'}{T t}{xs}{cs}{W W'}(h:Jh g T xs W)(b:Whole W g' t cs)(c:t≠T)(d:W.grownBy W' (some g')):Jh g T xs W':=by
 obtain⟨m,e,a,f⟩:=h;refine⟨m,e,(d.block g (aT.1 a).1 (λq=> ?_)).trans a,f⟩;injection q with q;subst q;have i:W.heap[g]?=some (.cells cs t (0,0)):=b;rw[i]at a;injection a with a;injection a with _ j;exact c j
theorem ci.step{L:iT}{a b c:ay}(h:ci L a b)(k:ci L b c):ci L a c:=h.trans k (λm d=> .inl d)
structure Zt(g:Nat)where
 ps:List (List Value)
 p:World->Prop
 up:∀W W',p W->ci [g] W W'->p W'
def Zt.C{g:Nat}(w:World)(T:TypeId)(s:Zt g)(W:World):Prop:=ci [g] w W/\Lay W g T s.ps/\g<w.heap.size/\s.p W
def Zt.le{g:Nat}(M:List Nat)(s t:Zt g):Prop:=(∀W,t.p W->s.p W)/\t.ps.map List.length=s.ps.map List.length/\ ∀i,i∉M->t.ps[i]?=s.ps[i]?
def Zt.any(g:Nat)(ps:List (List Value)):Zt g:=⟨ps,λ_=>True,λ_ _ _ _=>trivial⟩
def Zt.oE{g:Nat}(s:Zt g)(ps:List (List Value)):Zt g:=⟨ps,s.p,s.up⟩
section
variable {w W W':World}{g:Nat}{T:TypeId}{s t:Zt g}{M:List Nat}
theorem Zt.le_refl(M:iT)(s:Zt g):Zt.le M s s:=⟨λ_ h=>h,rfl,λ_ _=>rfl⟩
theorem Zt.le_trans(M:iT)(a b c:Zt g)(h:Zt.le M a b)(k:Zt.le M b c):Zt.le M a c:=⟨λW e=>h.1 W (k.1 W e),k.2.1.trans h.2.1,λi d=>(k.2.2 i d).trans (h.2.2 i d)⟩
theorem Zt.C.base(h:Zt.C w T s W):ci [g] w W:=h.1
theorem Zt.C.lay(h:Zt.C w T s W):Lay W g T s.ps:=h.2.1
theorem Zt.C.size(h:Zt.C w T s W):w.heap.size<=W.heap.size:=h.1.size
theorem Zt.C.iC(h:Zt.C w T s W)(a:Below W.heap.size W W'):Zt.C w T s W':=
 ⟨h.1.step (ci.cL a _),h.2.1.below a h.2.1.inside,h.2.2.1,s.up W W' h.2.2.2 (ci.cL a _)⟩
theorem Zt.C.cell(h:Zt.C w T t W)(hl:Zt.le M s t)(L:iT)(a:s.ps.map List.length=L)(i j o:Nat){p:gF}{v:cH}(b:i∉M)(c:kj L i+j=o)(d:s.ps[i]?=some p)(hv:p[j]?=some v):W.cell? ⟨g,o,none⟩=some v:=
 h.2.1.cell i j o (by rw[hl.2.1,a];exact c) ((hl.2.2 i b).trans d) hv
theorem Zt.C.row(h:Zt.C w T t W)(hl:Zt.le M s t)(L:iT)(a:s.ps.map List.length=L)(i o:Nat){p:gF}(b:i∉M)(c:kj L i=o)(d:s.ps[i]?=some p):At W g o p.toArray:=
 h.2.1.part i o p (by rw[hl.2.1,a];exact c) ((hl.2.2 i b).trans d)
theorem Zt.C.set(h:Zt.C w T s W)(L:iT)(b:s.ps.map List.length=L)(i o:Nat)(p q:gF)(c:kj L i=o)(d:s.ps[i]?=some p)(hl:p.length=q.length):Zt.C w T (s.oE (s.ps.set i q)) (W.setCells g o q):=by
 have a:=ci.bZ (aG g q o W);exact⟨h.1.step a,h.2.1.set i o p q (by rw[b];exact c) d hl,h.2.2.1,s.up _ _ h.2.2.2 a⟩
def Mkz(g:Nat)(s:Zt g)(b:Nat)(t:TypeId)(n:Nat)(W:World):Prop:=b≠g/\FN b t n W/\ ∃a,s.p a/\ci [g] a W/\a.heap.size<=b
theorem Mkz.up(s:Zt g)(b:Nat)(t:fg)(n:Nat)(W W':ay)(h:Mkz g s b t n W)(k:ci [g] W W'):Mkz g s b t n W':=by
 obtain⟨a,⟨c,d,e⟩,f,i,j,l⟩:=h;exact⟨a,⟨c,d,k.whole e (ek a)⟩,f,i,j.step k,l⟩
end
def Byz(g b:Nat)(T:TypeId)(xs:List Int)(W:World):Prop:=b≠g/\Jh b T xs W
theorem Byz.up(g b:Nat)(T:fg)(xs:aR)(W W':ay)(h:Byz g b T xs W)(k:ci [g] W W'):Byz g b T xs W':=by
 obtain⟨a,m,d,c,e⟩:=h;exact⟨a,m,d,(k.block b (aT.1 c).1 (ek a)).trans c,e⟩
end Go.Spk
