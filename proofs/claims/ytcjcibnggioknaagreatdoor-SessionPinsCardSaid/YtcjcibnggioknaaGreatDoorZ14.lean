/- Lemmas on which SessionPins rests. -/
import Derived.Test.YtcjcibnggioknaaGreatDoorZ11
import Derived.Test.YtcjcibnggioknaaGreatDoorZ12
set_option maxRecDepth 100000
set_option maxHeartbeats 40000000
set_option linter.unusedVariables false
open Go.RowKit Go.Spk
open Go.Proofs.Tryz
namespace Go.Spk
theorem tJ:∀xs:List (List UInt8),xs.length<=(Lib.join xs [44]).length+1
 | []=>ce _
 | [x]=>by rw[Lib.join_one];simp
 |x::y::r=>by
  have a:=tJ (y::r)
  have e:(Lib.join (x::y::r) [44]).length=x.length+1+(Lib.join (y::r) [44]).length:=by
   unfold Lib.join;simp[List.intercalate];omega
  rw[e];simp only[List.length_cons]at a⊢;omega
theorem DB(l:eL):l.length<=(ei l).size+1:=by
 have h:=tJ (l.map (·.data.toList));rw[aM]at h;have a:(Lib.join (l.map (·.data.toList)) [44]).length=(ei l).size:=by unfold ei;exact dH.symm
 omega
theorem Kq{s}(h:jm s=true):s.size<=64:=by
 unfold jm at h;simp at h;omega
def uL(B:Nat)(w:World):List Value->List (List ByteArray)->Prop
 | [],[]=>True
 |v::r,l::s=>vV B w v (l.map Value.string)/\uL B w r s
 |_,_=>False
theorem uL.same{B:Nat}{w a:World}(b:eR B w a):∀{vs:List Value} {L:List (List ByteArray)},uL B w vs L->uL B a vs L
 | [],[],_=>trivial
 |v::r,l::s,h=>⟨h.1.same b,uL.same b h.2⟩
 | [],_::_,h=>h.elim
 |_::_,[],h=>h.elim
theorem uL.mono{B a:Nat}{w:World}(b:B<=a):∀{vs:List Value} {L:List (List ByteArray)},uL B w vs L->uL a w vs L
 | [],[],_=>trivial
 |v::r,l::s,h=>⟨h.1.mono b,uL.mono b h.2⟩
 | [],_::_,h=>h.elim
 |_::_,[],h=>h.elim
theorem uL.len{B:Nat}{w:World}:∀{vs:List Value} {L:List (List ByteArray)},uL B w vs L->vs.length=L.length
 | [],[],_=>rfl
 |v::r,l::s,h=>by simp[uL.len h.2]
 | [],_::_,h=>h.elim
 |_::_,[],h=>h.elim
end Go.Spk
namespace Go.Proofs.P
structure kb(B:Nat)(w:World)(vu vs vn vb:Value)(m:de):Prop where
 U:vV B w vu (m.U.map λn:Nat=>Value.int .u32 n)
 S:vV B w vs (m.S.map Value.string)
 N:∃ns,vV B w vn ns/\uL B w ns m.N
 B:vV B w vb (m.B.map Value.bool)
theorem kb.same{B}{w w'}{vu vs vn vb}{m}(h:kb B w vu vs vn vb m)(a:eR B w w'):kb B w' vu vs vn vb m:=
 ⟨h.U.same a,h.S.same a,by obtain⟨b,c,d⟩:=h.N;exact⟨b,c.same a,d.same a⟩,h.B.same a⟩
theorem kb.mono{B B'}{w}{vu vs vn vb}{m}(h:kb B w vu vs vn vb m)(a:B<=B'):kb B' w vu vs vn vb m:=
 ⟨h.U.mono a,h.S.mono a,by obtain⟨b,c,d⟩:=h.N;exact⟨b,c.mono a,d.mono a⟩,h.B.mono a⟩
theorem VF(v:cH)(l:eL)(w:ay)(h:ee w v l)(m:∀s∈l,jm s=true)(n:(ei l).size<=4096):
 Calls prog 99 #[v] w λe C=>e= .returned (.tuple #[.bool true,.bool true])/\Below w.heap.size w C:=by
 have L:l.length<=5000:=by have:=DB l;omega
 have p:=aa (λW (h:ee W v l)=>yU v l W h af af);obtain⟨J,q⟩:=aP (ei l);rw[<-q]at p n;have D:(J.size:Int)<=4096:=af;have r:=aa h;have E:=aa m
 obtain⟨A,c,rfl⟩:∃A c,v= .slice A l.length c:=by
  rcases h with⟨a,A,c,f⟩|⟨g,o,c,a,_⟩
  .exact⟨A,c,by rw[f,a];rfl⟩
  .exact⟨_,_,a⟩
 clear h m q n
 go_enter func99,ntmps99
 go_wp2_with fail
 go_loopw [5,8] (λ_ i W=> ∃k:Nat,k<=l.length/\i= .int .i64 k/\W=w) (λ_ i _=>l.length -(intOf i).toNat)
 case atStart=>exact⟨0,af,rfl,rfl⟩
 case round=>
  obtain⟨k,M,rfl,rfl⟩:=hrel
  by_cases b:k<l.length
  .have N:(k:Int)<l.length:=af;obtain⟨x,j⟩:∃x,l[k]?=some x:=⟨_,aQ b⟩;have d:=E.o x (ah j);have y:=aa (Ry x (by have:=Kq d;omega) wr);rw[d]at y;rcases r.o with⟨a,_⟩|⟨g,o,O,a,f,F,z⟩
   .rw[a]at b;exact absurd b (Nat.not_lt_zero _)
   .injection a with G P H;subst G H;have c0:=z k x j;clear j d f F z
    go_wp2_with fail
    refine y.o.mono ?_;rintro e I ⟨rfl,rfl⟩
    go_wp2_with fail
    go_roundw
    case rel=>exact⟨k+1,af,by go_num,by first|rfl|trivial⟩
    case measure=>simp[intOf];omega
  .obtain rfl:k=l.length:=af
   go_wp2_with fail
   refine(p.o wr r.o).mono ?_;rintro e I ⟨rfl,B⟩;have K:=aa B;clear B
   go_wp2_with fail
   exact cI (results_tmp2 (t:=2) (u:=3) rfl _ _ _) rfl ⟨rfl,K.o⟩
theorem Eh:∀(L:aR) (m:de),(∀c∈L,Aj c)->I7 L m->m.U.length=L.count 117/\m.S.length=L.count 115+(L.count 99+L.count 114)/\m.N.length=L.count 110/\m.B.length=L.count 98
 | [],m,_,h=>by obtain⟨g,i,j,k⟩:=h;simp[g,i,j,k]
 |c::r,m,f,h=>by
  have a:=Eh r (dM c m) (λx b=>f x (List.mem_cons_of_mem _ b)) h.2;have l:=f c (List.mem_cons_self ..);rcases l with rfl|rfl|rfl|rfl|rfl|rfl
  .have d:∃x r,m.U=x::r/\x<4294967296:=by simpa[vL]using h.1
   obtain⟨x,t,b,_⟩:=d;have e:dM 117 m={m with U:=m.U.tail}:=rfl;rw[e]at a;dsimp only at a;rw[b]at a⊢;simp only[List.tail_cons]at a;simp only[List.length_cons,List.count_cons];simp;omega
  .have d:∃x r,m.B=x::r:=by simpa[vL]using h.1
   obtain⟨x,t,b⟩:=d;have e:dM 98 m={m with B:=m.B.tail}:=rfl;rw[e]at a;dsimp only at a;rw[b]at a⊢;simp only[List.tail_cons]at a;simp only[List.length_cons,List.count_cons];simp;omega
  .have d:∃x r,m.S=x::r/\x.size<=32768:=by simpa[vL]using h.1
   obtain⟨x,t,b,_⟩:=d;have e:dM 115 m={m with S:=m.S.tail}:=rfl;rw[e]at a;dsimp only at a;rw[b]at a⊢;simp only[List.tail_cons]at a;simp only[List.length_cons,List.count_cons];simp;omega
  .have d:∃x r,m.N=x::r/\(∀s∈x,jm s=true)/\(ei x).size<=4096:=by simpa[vL]using h.1
   obtain⟨x,t,b,_⟩:=d;have e:dM 110 m={m with N:=m.N.tail}:=rfl;rw[e]at a;dsimp only at a;rw[b]at a⊢;simp only[List.tail_cons]at a;simp only[List.length_cons,List.count_cons];simp;omega
  .have d:∃x r,m.S=x::r/\x.size=16:=by simpa[vL]using h.1
   obtain⟨x,t,b,_⟩:=d;have e:dM 99 m={m with S:=m.S.tail}:=rfl;rw[e]at a;dsimp only at a;rw[b]at a⊢;simp only[List.tail_cons]at a;simp only[List.length_cons,List.count_cons];simp;omega
  .have d:∃x r,m.S=x::r/\x.size<=32768:=by simpa[vL]using h.1
   obtain⟨x,t,b,_⟩:=d;have e:dM 114 m={m with S:=m.S.tail}:=rfl;rw[e]at a;dsimp only at a;rw[b]at a⊢;simp only[List.tail_cons]at a;simp only[List.length_cons,List.count_cons];simp;omega
theorem zL(t:bB)(c:UInt8):Lib.countByte t.data.toList c=(bI t).count ((c.toNat:Nat):Int):=by
 unfold Lib.countByte bI
 induction t.data.toList with
 |nil=>rfl
 |cons b r a=>
  rw[List.map_cons,List.count_cons,List.count_cons,a];congr 1
  by_cases h:b=c
  .subst h;simp
  .have:¬((b.toNat:Nat):Int)=((c.toNat:Nat):Int):=λe=>h (UInt8.toNat_inj.1 af);simp[h,this]
section
variable {d:Tmp}{x y:Operand}{ty:TypeId}{pos:String}{after:Array Edge}{gd:Option (Nat×Bool)}{a:Go.Act}{w:World}{K:Go.Act->World->Prop}{Q:Exit->Go.Act->World->Prop}
theorem BN(b:jQ w (a.eval x) 5):Oper.wp prog ⟨some d,.load 106 x,ty,pos,after,gd⟩ a w K Q=K (a.put (some d) (jx w (a.eval x) 5)) w:=iS underlying106 rfl al b
theorem BO(b:jQ w (a.eval x) 5)(c:mZ 5 (a.eval y)):Oper.wp prog ⟨none,.store 106 x y,ty,pos,after,gd⟩ a w K Q=K (a.put none undef) (w.setCells (lY (a.eval x)) (lZ (a.eval x)) (a.eval y).cells.toList):=lj al b c
end
theorem Ay(a:Int)(b vs c d:cH):prog.built 161 [(0,.agg (dP a b vs c d))]=some (dP a b vs c d):=by show _=_;kernel_rfl
def pl:List Int->de->de
 | [],m=>m
 |c::r,m=>pl r (dM c m)
theorem yr(c:Int):∀(L:List Int) (m:de),pl (L++ [c]) m=dM c (pl L m)
 | [],m=>rfl
 |d::r,m=>yr c r (dM d m)
theorem BH:∀(L:List Int) (k:Nat) (m:de),I7 L m->I7 (L.drop k) (pl (L.take k) m)
 |L,0,m,h=>h
 | [],k+1,m,h=>h
 |c::r,k+1,m,h=>BH r k (dM c m) h.2
theorem drop_at{l:aR}{k}{x}(h:l[k]?=some x):l.drop k=x::l.drop (k+1):=by
 have b:=(aI.1 h).1;have a:=(aI.1 h).2;rw[<-a,List.getElem_cons_drop]
theorem FI{l:aR}{k}{x}(h:l[k]?=some x):l.take (k+1)=l.take k++ [x]:=by rw[mT,h];rfl
attribute [local go_sem ↓] BN BO Go.wp_at_zero Go.wp_at_succ
attribute [local go_sem] cr cD
theorem zK(B:Nat)(K vs vn L:cH)(m:de)(aY:Cb m)(w:ay)(hm:kb B w K vs vn L m)(hB:B<=w.heap.size)(hR:m0 w):
 Calls prog 64 #[.agg (dP m.kind K vs vn L)] w λe w'=>e= .returned .nilIface/\Below w.heap.size w w':=by
 obtain⟨f,hf,hw⟩:=aY;have HF:=aa (λW (h:m0 W)=>wC m.kind W h);have aE:Cx m.kind=f:=by unfold Cx;rw[hf];rfl
 rw[aE,show(dh m.kind).isSome=true by rw[hf];rfl]at HF;have M:=nt hf;have aF:=ra hf;obtain⟨c1,c2,c3,c4⟩:=Eh (bI f) m M hw;obtain⟨ns,ao,av⟩:=hm.N;obtain⟨Au,cu,Z⟩:=hm.U.len;obtain⟨As,cs,ab⟩:=hm.S.len;obtain⟨An,cn,ad⟩:=ao.len;obtain⟨Ab,cb,aj⟩:=hm.B.len;rw[aM]at Z ab aj;rw[av.len]at ad;have e1:m.U.length=my f [117]:=by rw[c1];unfold my;simp[zL]
 have e2:m.S.length=my f [115,99,114]:=by rw[c2];unfold my;simp[zL]
 have e3:m.N.length=my f [110]:=by rw[c3];unfold my;simp[zL]
 have e4:m.B.length=my f [98]:=by rw[c4];unfold my;simp[zL]
 rw[e1]at Z;rw[e2]at ab;rw[e3]at ad;rw[e4]at aj;have ax:=aa (λW=>NQ m.kind K vs vn L f af Au As An Ab cu cs cn cb Z ab ad aj W);have al:=aa (Ay m.kind K vs vn L);have HM:=aa hm;have aG:=aa (show vV B w vn ns/\uL B w ns m.N from⟨ao,av⟩);have j:=aa hB;have HW:=aa hw;have aZ:=aa M;have HR:=aa hR;obtain⟨kd,aK⟩:=aP (m.kind);rw[<-aK]at HF ax al⊢;obtain⟨MR,az⟩:=aP (dP kd K vs vn L);have H:=aa az;rw[<-az]at ax al⊢;have bb:f.size<=13:=aF;clear hf hw aE M aF c1 c2 c3 c4 ao av Z ab ad aj e1 e2 e3 e4 hm hB hR az aK
 go_enter func64,ntmps64
 go_upto_region 1 with(fail)
 refine aU (λW=>Below w.heap.size w W/\Whole W w.heap.size 106 MR) ⟨by go_grown,Whole.new rfl rfl⟩ ?_;intro W0 ⟨kB,kM⟩;have B0:=aa kB;have M0:=aa kM;have c0:W0.cell? ⟨w.heap.size,0,none⟩=some (.int .i64 kd):=by rw[kM.at_,H.o];rfl
 clear kB kM
 go_wp2_with fail
 refine(HF.o W0 (HR.o.below B0.o)).mono ?_;rintro e W1 ⟨rfl,I⟩;have B1:=aa (B0.o.trans (I.mono B0.o.size));have M1:=aa (M0.o.below I M0.o.inside);have l1:=(At.j M1.o).R (m:=5) (by rw[H.o];rfl);have r1:=(At.j M1.o).row (m:=5) (by rw[H.o];rfl);clear I B0 M0 c0
 go_wp2_with fail
 refine(ax.o W1).mono ?_;rintro e W2 ⟨rfl,I⟩;have B2:=aa (B1.o.trans (I.mono B1.o.size));have M2:=aa (M1.o.below I M1.o.inside);have l2:=(At.j M2.o).R (m:=5) (by rw[H.o];rfl);have r2:=(At.j M2.o).row (m:=5) (by rw[H.o];rfl);clear I l1 r1 B1 M1
 go_wp2_with (refine sO MR rfl 161 _ rfl (Eq.trans (aA (Program.built prog 161) (show _= [(0,Value.agg MR)]from by kernel_rfl)) al.o) ?_)
 refine aU (λW=>Below w.heap.size w W/\eO W W2.heap.size kd K vs vn L) ⟨B2.o.alloc B2.o.size _,by rw[H.o];exact Whole.new rfl rfl⟩ ?_;intro W3 ⟨kB,kF⟩;have J:=aa B2.o.size;have B3:=aa kB;have F3:=aa kF;clear kB kF l2 r2 B2 M2 al;generalize W2.heap.size=g at*
 go_loopw [5,6,8,30] (λs5 s6 _ i W=> ∃(k:Nat) (o l:Value) (y:List Value),k<=f.size/\i= .int .i64 k/\s5= .bool false/\s6= .bool false/\Below w.heap.size w W/\eO W g kd K o l L/\vV B W o ((pl ((bI f).take k) m).S.map Value.string)/\vV B W l y/\uL B W y (pl ((bI f).take k) m).N) (λ_ _ _ i _=>f.size -(intOf i).toNat)
 case atStart=>
  have aB:eR B w W3:=eR.cL B3.o j.o;exact⟨0,vs,vn,ns,ce _,rfl,rfl,rfl,B3.o,F3.o,HM.o.S.same aB,aG.o.1.same aB,aG.o.2.same aB⟩
 case round=>
  obtain⟨k,o,l,y,hk,rfl,rfl,rfl,kB,kF,kS,kN,aR⟩:=hrel;have O:=aa kB;have KF:=aa kF;have KS:=aa kS;have KN:=aa kN;have C:=aa aR;have KZ:=aa (ap j.o kB.size);clear kB kF kS kN aR
  by_cases a0:k<f.size
  .have ii:(k:Int)<f.size:=af;have an:=Dc f k a0;have aC:=BH (bI f) k m HW.o;rw[drop_at an]at aC;have a1:=aa (FI an);have HL:=aa (aZ.o _ (ah an));have c:=aa aC.1;clear an aC;obtain⟨q,hq⟩:=aP (pl ((bI f).take k) m);rw[<-hq]at KS C c;have b:=aa (by rw[a1.o,yr,hq]:pl ((bI f).take (k+1)) m=dM ((f[k].toNat:Nat):Int) q);clear hq;rcases HL.o with P|P|P|P|P|P
   .rw[P]at c b;have d:=aa (show pl ((bI f).take (k+1)) m={q with U:=q.U.tail}from b.o);clear HL c b
    go_wp2_with fail
    go_roundw
    case rel=>exact⟨k+1,o,l,y,af,by go_num,rfl,rfl,O.o,KF.o,by rw[d.o];exact KS.o,KN.o,by rw[d.o];exact C.o⟩
    case measure=>simp[intOf];omega
   .rw[P]at c b;have d:=aa (show pl ((bI f).take (k+1)) m={q with B:=q.B.tail}from b.o);clear HL c b
    go_wp2_with fail
    go_roundw
    case rel=>exact⟨k+1,o,l,y,af,by go_num,rfl,rfl,O.o,KF.o,by rw[d.o];exact KS.o,KN.o,by rw[d.o];exact C.o⟩
    case measure=>simp[intOf];omega
   .rw[P]at c b;have d:=aa (show pl ((bI f).take (k+1)) m={q with S:=q.S.tail}from b.o);obtain⟨x,t,D,z⟩:∃x r,q.S=x::r/\x.size<=32768:=by simpa[vL]using c.o
    have HX:=aa D;have Q:=KS.o;rw[D]at Q;have HP:=aa (Fp B g kd K o l L x (t.map Value.string) wr KF.o (ap j.o J.o) KZ.o Q);have aS:¬(32768:Int)<(x.size:Int):=af;clear HL c b D z Q
    go_wp2_with fail
    refine HP.o.mono ?_;rintro e W4 ⟨rfl,⟨v,R,V⟩,E⟩;have a:=eR.bZ E KZ.o (ap j.o J.o);have F:=aa R;have A:=aa V;have G:=aa (KN.o.same a);have n:=aa (C.o.same a);have u:=aa (O.o.grown E O.o.size (λp X=>by injection X with X;have:=J.o;omega));clear a R V E
    go_wp2_with fail
    go_roundw
    case rel=>exact⟨k+1,v,l,y,af,by go_num,by first|rfl|simp,by first|rfl|(simp;omega),u.o,A.o,by rw[d.o,HX.o];exact F.o,G.o,by rw[d.o];exact n.o⟩
    case measure=>simp[intOf];omega
   .rw[P]at c b;have d:=aa (show pl ((bI f).take (k+1)) m={q with N:=q.N.tail}from b.o);obtain⟨x,t,D,aV,z⟩:∃x r,q.N=x::r/\(∀s∈x,jm s=true)/\(ei x).size<=4096:=by simpa[vL]using c.o
    have HX:=aa D;have Y:=C.o;rw[D]at Y;cases y with
    |nil=>exact Y.elim
    |cons v0 nr=>
     have HP:=aa (Sh B g kd K o l L v0 nr wr KF.o (ap j.o J.o) KZ.o KN.o);have a2:=aa Y.1;have a3:=aa Y.2;have a4:=aa aV;have a5:=aa z;clear HL c b D aV z Y
     go_wp2_with fail
     refine HP.o.mono ?_;rintro e W4 ⟨rfl,⟨v,R,V⟩,E⟩;have a:=eR.bZ E KZ.o (ap j.o J.o);have F:=aa (KS.o.same a);have A:=aa V;have G:=aa R;have n:=aa (a3.o.same a);have u:=aa (O.o.grown E O.o.size (λp X=>by injection X with X;have:=J.o;omega));have a6:=aa (VF v0 x W4 ((a2.o.same a).strs (ap j.o u.o.size)) a4.o a5.o);clear a R V E
     go_wp2_with fail
     refine a6.o.mono ?_;rintro e W5 ⟨rfl,I⟩;have a:=eR.cL I (ap j.o u.o.size);have a7:=aa (F.o.same a);have a8:=aa (Whole.below A.o I (Whole.inside A.o));have a9:=aa (G.o.same a);have aX:=aa (n.o.same a);have ba:=aa (u.o.trans (I.mono u.o.size));clear a I
     go_wp2_with fail
     go_roundw
     case rel=>exact⟨k+1,o,v,nr,af,by go_num,rfl,rfl,ba.o,a8.o,by rw[d.o];exact a7.o,a9.o,by rw[d.o,HX.o];exact aX.o⟩
     case measure=>simp[intOf];omega
   .rw[P]at c b;have d:=aa (show pl ((bI f).take (k+1)) m={q with S:=q.S.tail}from b.o);obtain⟨x,t,D,z⟩:∃x r,q.S=x::r/\x.size=16:=by simpa[vL]using c.o
    have HX:=aa D;have Q:=KS.o;rw[D]at Q;have HP:=aa (Fp B g kd K o l L x (t.map Value.string) wr KF.o (ap j.o J.o) KZ.o Q);have bc:(x.size:Int)=16:=af;clear HL c b D z Q
    go_wp2_with fail
    refine HP.o.mono ?_;rintro e W4 ⟨rfl,⟨v,R,V⟩,E⟩;have a:=eR.bZ E KZ.o (ap j.o J.o);have F:=aa R;have A:=aa V;have G:=aa (KN.o.same a);have n:=aa (C.o.same a);have u:=aa (O.o.grown E O.o.size (λp X=>by injection X with X;have:=J.o;omega));clear a R V E
    go_wp2_with fail
    go_roundw
    case rel=>exact⟨k+1,v,l,y,af,by go_num,by first|rfl|simp,by first|rfl|(simp;omega),u.o,A.o,by rw[d.o,HX.o];exact F.o,G.o,by rw[d.o];exact n.o⟩
    case measure=>simp[intOf];omega
   .rw[P]at c b;have d:=aa (show pl ((bI f).take (k+1)) m={q with S:=q.S.tail}from b.o);obtain⟨x,t,D,z⟩:∃x r,q.S=x::r/\x.size<=32768:=by simpa[vL]using c.o
    have HX:=aa D;have Q:=KS.o;rw[D]at Q;have HP:=aa (Fp B g kd K o l L x (t.map Value.string) wr KF.o (ap j.o J.o) KZ.o Q);have aS:¬(32768:Int)<(x.size:Int):=af;clear HL c b D z Q
    go_wp2_with fail
    refine HP.o.mono ?_;rintro e W4 ⟨rfl,⟨v,R,V⟩,E⟩;have a:=eR.bZ E KZ.o (ap j.o J.o);have F:=aa R;have A:=aa V;have G:=aa (KN.o.same a);have n:=aa (C.o.same a);have u:=aa (O.o.grown E O.o.size (λp X=>by injection X with X;have:=J.o;omega));clear a R V E
    go_wp2_with fail
    go_roundw
    case rel=>exact⟨k+1,v,l,y,af,by go_num,by first|rfl|simp,by first|rfl|(simp;omega),u.o,A.o,by rw[d.o,HX.o];exact F.o,G.o,by rw[d.o];exact n.o⟩
    case measure=>simp[intOf];omega
  .obtain rfl:k=f.size:=af
   go_wp2_with fail
   go_ret
   exact⟨rfl,O.o⟩
end Go.Proofs.P
namespace Go.Spk
theorem gH.other{T e t}{B b g}{d}{cs}{w f}(h:gH T e B b d w)(r:Whole w g t cs)(s:t≠e)(u:b≠g)(m:w.grownBy f (some g)):gH T e B b d f:=by
 have key:∀p,BX T e B b p d w->BX T e B b p d f:=by
  rintro p ⟨v,n,o,y⟩;refine⟨v,(m.block b (aT.1 n).1 (bE u)).trans n,⟨o.1,?_⟩,y⟩;rcases o.2 with z|⟨i,j,k,A,l,a,c⟩
  .exact .inl z
  .refine .inr ⟨i,j,k,A,l,(m.block i (aT.1 a).1 (bE ?_)).trans a,c⟩;intro C;subst C;have D:w.heap[i]?=some (.cells cs t (0,0)):=r;rw[D]at a;injection a with q;injection q with F E G;exact s E
 exact h.elim (λx=> .inl (key _ x)) (λx=> .inr (key _ x))
end Go.Spk
namespace Go.Proofs.P
theorem Dm(c:Int):∀(L:List Int) (m:de),mf (L++ [c]) m=mf L m++ou c (pl L m)
 | [],m=>by show ou c m++ []= []++ou c m;simp
 |d::r,m=>by
  show ou d m++mf (r++ [c]) (dM d m)=(ou d m++mf r (dM d m))++ou c (pl r (dM d m));rw[Dm c r,bf]
theorem NV{c}{m}(d:Aj c)(h:vL c m):(ou c m).length<=32772:=by
 rcases d with rfl|rfl|rfl|rfl|rfl|rfl
 .show(qJ (m.U.headD 0) 4 4).length<=_;rw[eW];decide
 .show(1:Nat)<=32772;decide
 .obtain⟨x,t,a,b⟩:∃x r,m.S=x::r/\x.size<=32768:=by simpa[vL]using h
  show(cG (m.S.headD ⟨#[]⟩)).length<=_;rw[a,eQ];show 4+x.size<=_;omega
 .obtain⟨x,t,a,_,b⟩:∃x r,m.N=x::r/\(∀s∈x,jm s=true)/\(ei x).size<=4096:=by simpa[vL]using h
  show(cG (ei (m.N.headD []))).length<=_;rw[a,eQ];show 4+(ei x).size<=_;omega
 .obtain⟨x,t,a,b⟩:∃x r,m.S=x::r/\x.size=16:=by simpa[vL]using h
  show(bI (m.S.headD ⟨#[]⟩)).length<=_;rw[a,aj];show x.size<=_;omega
 .obtain⟨x,t,a,b⟩:∃x r,m.S=x::r/\x.size<=32768:=by simpa[vL]using h
  show(bI (m.S.headD ⟨#[]⟩)).length<=_;rw[a,aj];show x.size<=_;omega
theorem PJ(s:bB):∀b∈bI s,0<=b/\b<=255:=λb a=>by
 unfold bI at a;obtain⟨x,_,rfl⟩:=fZ.1 a;have:=x.toNat_lt;omega
theorem lN(s:bB):∀b∈cG s,0<=b/\b<=255:=λb a=>by
 unfold cG at a;rcases bT.1 a with h|h
 .exact qK _ _ _ b h
 .exact PJ _ b h
theorem NW(c:Int)(m:de):∀b∈ou c m,0<=b/\b<=255:=λb a=>by
 unfold ou at a
 split at a
 .exact qK _ _ _ b a
 .split at a
  .obtain rfl:=ar.1 a
   split<;>decide
  .split at a
   .exact lN _ b a
   .split at a
    .exact lN _ b a
    .exact PJ _ b a
theorem AF:∀(L:List Int) (m:de),∀b∈mf L m,0<=b/\b<=255
 | [],m,b,a=>by cases a
 |c::r,m,b,a=>by
  rcases bT.1 (show b∈ou c m++mf r (dM c m)from a)with h|h
  .exact NW c m b h
  .exact AF r _ b h
theorem vd{k}{f}(h:dh k=some f):1<=k/\k<=100:=by
 have:∀r∈nS,1<=r.1/\r.1<=100:=an;unfold dh tE at h;obtain⟨r,a,rfl⟩:=bN.1 h;have c:=this r (List.mem_of_find?_eq_some a);have b:=List.find?_some a;simp at b;omega
theorem Rx{f}{m}:∀b∈Rw f m,0<=b/\b<=255:=λb a=>by
 unfold Rw at a;rcases bT.1 a with h|h
 .obtain rfl:=ar.1 h;omega
 .exact AF _ _ b h
section
variable {B g:Nat}{kd:Int}{vu vs vn vb:Value}{q:de}{w:World}
theorem Zw(x:Nat)(t:iT)(l:q.U=x::t)(h:eO w g kd vu vs vn vb)(i:B<=g)(j:B<=w.heap.size)(hm:kb B w vu vs vn vb q):
 Calls prog 68 #[.pointer (some ⟨g,0,none⟩)] w λe f=>e= .returned (.int .u32 x)/\(∃v,kb B f v vs vn vb {q with U:=t}/\eO f g kd v vs vn vb)/\w.grownBy f (some g):=by
 have k:=hm.U;rw[l]at k;refine(Zv B g kd vu vs vn vb x _ w h i j k).mono ?_;rintro e f ⟨m,⟨v,n,o⟩,d⟩;have c:=eR.bZ d j i;exact⟨m,⟨v,⟨n,hm.S.same c,by obtain⟨p,a,b⟩:=hm.N;exact⟨p,a.same c,b.same c⟩,hm.B.same c⟩,o⟩,d⟩
theorem K7(x:bB)(t:eL)(l:q.S=x::t)(h:eO w g kd vu vs vn vb)(i:B<=g)(j:B<=w.heap.size)(hm:kb B w vu vs vn vb q):
 Calls prog 72 #[.pointer (some ⟨g,0,none⟩)] w λe f=>e= .returned (.string x)/\(∃v,kb B f vu v vn vb {q with S:=t}/\eO f g kd vu v vn vb)/\w.grownBy f (some g):=by
 have k:=hm.S;rw[l]at k;refine(Fp B g kd vu vs vn vb x _ w h i j k).mono ?_;rintro e f ⟨m,⟨v,n,o⟩,d⟩;have c:=eR.bZ d j i;exact⟨m,⟨v,⟨hm.U.same c,n,by obtain⟨p,a,b⟩:=hm.N;exact⟨p,a.same c,b.same c⟩,hm.B.same c⟩,o⟩,d⟩
theorem Zs(x:Bool)(t:List Bool)(l:q.B=x::t)(h:eO w g kd vu vs vn vb)(i:B<=g)(j:B<=w.heap.size)(hm:kb B w vu vs vn vb q):
 Calls prog 70 #[.pointer (some ⟨g,0,none⟩)] w λe f=>e= .returned (.bool x)/\(∃v,kb B f vu vs vn v {q with B:=t}/\eO f g kd vu vs vn v)/\w.grownBy f (some g):=by
 have k:=hm.B;rw[l]at k;refine(Zr B g kd vu vs vn vb x _ w h i j k).mono ?_;rintro e f ⟨m,⟨v,n,o⟩,d⟩;have c:=eR.bZ d j i;exact⟨m,⟨v,⟨hm.U.same c,hm.S.same c,by obtain⟨p,a,b⟩:=hm.N;exact⟨p,a.same c,b.same c⟩,n⟩,o⟩,d⟩
theorem Zu(x:eL)(t:acs)(m:q.N=x::t)(h:eO w g kd vu vs vn vb)(k:B<=g)(i:B<=w.heap.size)(hm:kb B w vu vs vn vb q):
 ∃d,Calls prog 74 #[.pointer (some ⟨g,0,none⟩)] w λe f=>e= .returned d/\ee f d x/\(∃v,kb B f vu vs v vb {q with N:=t}/\eO f g kd vu vs v vb)/\w.grownBy f (some g):=by
 obtain⟨n,j,b⟩:=hm.N;rw[m]at b;cases n with
 |nil=>exact b.elim
 |cons d l=>
  refine⟨d,(Sh B g kd vu vs vn vb d l w h k i j).mono ?_⟩;rintro e f ⟨o,⟨v,p,r⟩,c⟩;have a:=eR.bZ c i k;exact⟨o,(b.1.same a).strs (ap i c.size),⟨v,⟨hm.U.same a,hm.S.same a,⟨l,p,b.2.same a⟩,hm.B.same a⟩,r⟩,c⟩
end
attribute [local go_sem ↓] BN BO Go.wp_at_zero Go.wp_at_succ
attribute [local go_sem] cr cD
theorem EB(B:Nat)(vu vs vn vb:cH)(m:de)(aR:Cb m)(w:ay)(hm:kb B w vu vs vn vb m)(hB:B<=w.heap.size)(hR:m0 w):
 Calls prog 41 #[.agg (dP m.kind vu vs vn vb)] w λe w'=>e= .returned (.string (db m))/\Below w.heap.size w w':=by
 have az:=aa (λW (hA:kb B W vu vs vn vb m) (hs:B<=W.heap.size) (hr:m0 W)=>zK B vu vs vn vb m aR W hA hs hr);obtain⟨c,hf,hw⟩:=aR;have HF:=aa (λW (h:m0 W)=>wC m.kind W h);have aS:Cx m.kind=c:=by unfold Cx;rw[hf];rfl
 rw[aS,show(dh m.kind).isSome=true by rw[hf];rfl]at HF;have ax:=nt hf;have aV:=ra hf;have aB:=vd hf;have ao:=aa (Ay m.kind vu vs vn vb);obtain⟨RB,aC⟩:=aP (db m)
 have aX:=aa (show RB=strOfNums ([m.kind]++mf (bI c) m) by
  rw[aC];unfold db Rw;rw[hf];dsimp only;rw[Int.emod_eq_of_lt af af])
 rw[<-aC];have HM:=aa hm;have b:=aa hB;have HW:=aa hw;have a0:=aa ax;have HR:=aa hR;obtain⟨kd,aE⟩:=aP (m.kind);have a8:=aa aE;rw[<-aE]at HF ao az aB aX⊢;have a9:IntKind.u8.wrap kd=kd:=by rw[IntKind.wrap_u8'];omega
 have a1:=aa aB;obtain⟨MR,aF⟩:=aP (dP kd vu vs vn vb);have ab:=aa aF;rw[<-aF]at ao az⊢;have a7:c.size<=13:=aV;clear hf hw aS ax aV hm hB hR aF aE aC aB
 go_enter func41,ntmps41
 go_upto_region 1 with(fail)
 refine aU (λW=>Below w.heap.size w W/\Whole W w.heap.size 106 MR) ⟨by go_grown,Whole.new rfl rfl⟩ ?_;intro W0 ⟨kB,kM⟩;have B0:=aa kB;have M0:=aa kM;have l0:=(At.j kM).R (m:=5) (by rw[ab.o];rfl);have r0:=(At.j kM).row (m:=5) (by rw[ab.o];rfl);clear kB kM
 go_wp2_with fail
 refine(az.o W0 (HM.o.same (eR.cL B0.o b.o)) (Nat.le_trans b.o B0.o.size) (HR.o.below B0.o)).mono ?_;rintro e W1 ⟨rfl,hb⟩;have B1:=aa (B0.o.trans (hb.mono B0.o.size));have M1:=aa (M0.o.below hb M0.o.inside);have c1:W1.cell? ⟨w.heap.size,0,none⟩=some (.int .i64 kd):=by rw[M1.o.at_,ab.o];rfl
 clear hb l0 r0 B0 M0
 go_wp2_with fail
 refine(HF.o W1 (HR.o.below B1.o)).mono ?_;rintro e W2 ⟨rfl,hb⟩;have B2:=aa (B1.o.trans (hb.mono B1.o.size));have M2:=aa (M1.o.below hb M1.o.inside);clear hb c1 B1 M1
 go_upto_region 5 with(fail)
 refine aU (λW=>Below w.heap.size w W/\Whole W w.heap.size 106 MR/\ec W2.heap.size W2.heap.size [] W) ⟨B2.o.alloc B2.o.size _,Whole.alloc M2.o _,ec.fresh _ (heap_alloc_new _ _)⟩ ?_;intro W3 ⟨kB,kM,kO⟩;have a:=aa (show w.heap.size<=W2.heap.size/\w.heap.size≠W2.heap.size from⟨B2.o.size,Nat.ne_of_lt M2.o.inside⟩);have aG:=aa (show W2.heap.size<=W3.heap.size from Nat.le_of_lt (gH.lt kO));have B3:=aa kB;have M3:=aa kM;have O3:=aa kO;have c3:W3.cell? ⟨w.heap.size,0,none⟩=some (.int .i64 kd):=by rw[kM.at_,ab.o];rfl
 clear kB kM kO B2 M2;generalize W2.heap.size=F at*
 go_wp2_with fail
 refine(Bi kd F F [] W3 O3.o an aG.o).mono ?_;rintro e W4 ⟨rfl,h4,y⟩;have B4:=aa (B3.o.trans (y.1.below a.o.1 a.o.1));have M4:=aa (Whole.Pb M3.o y.2 a.o.2 an);have O4:=aa h4;have f:=aa (Nat.le_trans aG.o y.1.size);have l4:=(At.j M4.o).R (m:=5) (by rw[ab.o];rfl);have r4:=(At.j M4.o).row (m:=5) (by rw[ab.o];rfl);clear h4 y c3 B3 M3 O3 aG
 go_wp2_with (refine sO MR rfl 161 _ rfl (Eq.trans (congrArg (Program.built prog 161) (show _= [(0,Value.agg MR)]from by kernel_rfl)) ao.o) ?_)
 refine aU (λW=>Below w.heap.size w W/\eO W W4.heap.size kd vu vs vn vb/\ec F F ([kd]++mf ((bI c).take 0) m) W) ⟨B4.o.alloc B4.o.size _,by rw[ab.o];exact Whole.new rfl rfl,O4.o.below ((Below.refl _ _).alloc (Nat.le_refl _) _)⟩ ?_;intro W5 ⟨kB,kF,kO⟩;have G:=aa (show w.heap.size<=W4.heap.size/\F<W4.heap.size from⟨B4.o.size,gH.lt O4.o⟩);have B5:=aa kB;have F5:=aa kF;have O5:=aa kO;clear kB kF kO l4 r4 B4 M4 O4 f ao;generalize W4.heap.size=g at*
 go_loopw [7,26] (λ_ i W=> ∃(k:Nat) (C R D E:Value),k<=c.size/\i= .int .i64 k/\(mf ((bI c).take k) m).length<=k*40000/\Below w.heap.size w W/\eO W g kd C R D E/\ec F F ([kd]++mf ((bI c).take k) m) W/\kb B W C R D E (pl ((bI c).take k) m)) (λ_ i _=>c.size -(intOf i).toNat)
 case atStart=>
  exact⟨0,vu,vs,vn,vb,Nat.zero_le _,rfl,Nat.zero_le _,B5.o,F5.o,O5.o,HM.o.same (eR.cL B5.o b.o)⟩
 case round=>
  obtain⟨k,C,R,D,E,hk,rfl,hL,kB,kF,kO,kM⟩:=hrel;have V:=aa kB;have Z:=aa kF;have KO:=aa kO;have KM:=aa kM;have KL:=aa hL;have KZ:=aa (Nat.le_trans b.o kB.size);have KG:=aa (show F<=wr.heap.size from Nat.le_of_lt (gH.lt kO));clear kB kF kO kM hL
  by_cases a2:k<c.size
  .have ii:(k:Int)<c.size:=af;have av:=Dc c k a2;have aK:=BH (bI c) k m HW.o;rw[drop_at av]at aK;have aY:=aa (FI av);have HL:=aa (a0.o _ (List.mem_of_getElem? av));have d:=aa aK.1;clear av aK;obtain⟨q,hq⟩:=aP (pl ((bI c).take k) m);rw[<-hq]at KM d;have j:=aa (by rw[aY.o,yr,hq]:pl ((bI c).take (k+1)) m=dM ((c[k].toNat:Nat):Int) q);have X:=aa (by rw[aY.o,Dm,hq]:mf ((bI c).take (k+1)) m=mf ((bI c).take k) m++ou ((c[k].toNat:Nat):Int) q)
   have ad:=aa (show(mf ((bI c).take (k+1)) m).length<=(k+1)*40000 by
    rw[X.o,List.length_append];have h1:=NV HL.o d.o;have Y:=KL.o;omega)
   have al:=aa (show([kd]++mf ((bI c).take k) m).length<=1000000 by
    rw[List.length_append];have Y:=KL.o;show 1+_<=_;omega)
   clear hq;rcases HL.o with hc|hc|hc|hc|hc|hc
   .rw[hc]at d j X;obtain⟨x,t,z,l⟩:∃x r,q.U=x::r/\x<4294967296:=by simpa[vL]using d.o
    have H:=aa (show pl ((bI c).take (k+1)) m={q with U:=t} by rw[j.o];show{q with U:=q.U.tail}=_;rw[z];rfl);have I:=aa (by rw[X.o,<-List.append_assoc];show _++qJ (q.U.headD 0) 4 4=_;rw[z];rfl:[kd]++mf ((bI c).take (k+1)) m=([kd]++mf ((bI c).take k) m)++qJ x 4 4);have HP:=aa (Zw x t z Z.o (Nat.le_trans b.o G.o.1) KZ.o KM.o);have P:=aa l;clear HL d j X z l
    go_wp2_with fail
    refine HP.o.mono ?_;rintro e W4 ⟨rfl,⟨v,h1,Y⟩,A⟩;have n:=aa h1;have o:=aa Y;have u:=aa (gH.other KO.o Z.o an (Nat.ne_of_lt G.o.2) A);have f:=aa (V.o.grown A V.o.size (λp Q=>by injection Q with Q;have:=G.o;omega));have J:=aa (Nat.le_trans KG.o A.size);clear h1 Y A V Z KO KM
    go_wp2_with fail
    refine(Fk x P.o F F _ W4 u.o (dp al.o) J.o).mono ?_;rintro e W5 ⟨rfl,h5,y⟩;have K:=aa h5;have L:=aa (n.o.same (eR.ym y.1 (Nat.le_trans b.o a.o.1) (Nat.le_trans b.o a.o.1)));have M:=aa (show eO W5 g kd v R D E from Whole.Pb o.o y.2 (Nat.ne_of_gt G.o.2) an);have O:=aa (f.o.trans (y.1.below a.o.1 a.o.1));clear h5 y u n o f
    go_wp2_with fail
    go_roundw
    case rel=>exact⟨k+1,v,R,D,E,af,by go_num,ad.o,O.o,M.o,by rw[I.o];exact K.o,by rw[H.o];exact L.o⟩
    case measure=>simp[intOf];omega
   .rw[hc]at d j X;obtain⟨x,t,z,l⟩:∃x r,q.B=x::r/\True:=by simpa[vL]using d.o
    have H:=aa (show pl ((bI c).take (k+1)) m={q with B:=t} by rw[j.o];show{q with B:=q.B.tail}=_;rw[z];rfl);have I:=aa (show[kd]++mf ((bI c).take (k+1)) m=([kd]++mf ((bI c).take k) m)++ [if x then(1:Int)else 0] by rw[X.o,<-List.append_assoc];show _++ [if q.B.headD false then(1:Int)else 0]=_;rw[z];rfl);have HP:=aa (Zs x t z Z.o (Nat.le_trans b.o G.o.1) KZ.o KM.o);have P:=aa l;clear HL d j X z l
    go_wp2_with fail
    refine HP.o.mono ?_;rintro e W4 ⟨rfl,⟨v,h1,Y⟩,A⟩;have n:=aa h1;have o:=aa Y;have u:=aa (gH.other KO.o Z.o an (Nat.ne_of_lt G.o.2) A);have f:=aa (V.o.grown A V.o.size (λp Q=>by injection Q with Q;have:=G.o;omega));have J:=aa (Nat.le_trans KG.o A.size);clear h1 Y A V Z KO KM
    go_wp2_with fail
    refine(RT x F F _ W4 u.o (dp al.o) J.o).mono ?_;rintro e W5 ⟨rfl,h5,y⟩;have K:=aa h5;have L:=aa (n.o.same (eR.ym y.1 (Nat.le_trans b.o a.o.1) (Nat.le_trans b.o a.o.1)));have M:=aa (show eO W5 g kd C R D v from Whole.Pb o.o y.2 (Nat.ne_of_gt G.o.2) an);have O:=aa (f.o.trans (y.1.below a.o.1 a.o.1));clear h5 y u n o f
    go_wp2_with fail
    go_roundw
    case rel=>exact⟨k+1,C,R,D,v,af,by go_num,ad.o,O.o,M.o,by rw[I.o];exact K.o,by rw[H.o];exact L.o⟩
    case measure=>simp[intOf];omega
   .rw[hc]at d j X;obtain⟨x,t,z,l⟩:∃x r,q.S=x::r/\x.size<=32768:=by simpa[vL]using d.o
    have H:=aa (show pl ((bI c).take (k+1)) m={q with S:=t} by rw[j.o];show{q with S:=q.S.tail}=_;rw[z];rfl);have I:=aa (by rw[X.o,<-List.append_assoc];show _++cG (q.S.headD ⟨#[]⟩)=_;rw[z];rfl:[kd]++mf ((bI c).take (k+1)) m=([kd]++mf ((bI c).take k) m)++cG x);have HP:=aa (K7 x t z Z.o (Nat.le_trans b.o G.o.1) KZ.o KM.o);have P:=aa l;clear HL d j X z l
    go_wp2_with fail
    refine HP.o.mono ?_;rintro e W4 ⟨rfl,⟨v,h1,Y⟩,A⟩;have n:=aa h1;have o:=aa Y;have u:=aa (gH.other KO.o Z.o an (Nat.ne_of_lt G.o.2) A);have f:=aa (V.o.grown A V.o.size (λp Q=>by injection Q with Q;have:=G.o;omega));have J:=aa (Nat.le_trans KG.o A.size);clear h1 Y A V Z KO KM
    go_wp2_with fail
    refine(kE x (dp P.o) F F _ W4 u.o (dp al.o) J.o).mono ?_;rintro e W5 ⟨rfl,h5,y⟩;have K:=aa h5;have L:=aa (n.o.same (eR.ym y.1 (Nat.le_trans b.o a.o.1) (Nat.le_trans b.o a.o.1)));have M:=aa (show eO W5 g kd C v D E from Whole.Pb o.o y.2 (Nat.ne_of_gt G.o.2) an);have O:=aa (f.o.trans (y.1.below a.o.1 a.o.1));clear h5 y u n o f
    go_wp2_with fail
    go_roundw
    case rel=>exact⟨k+1,C,v,D,E,af,by go_num,ad.o,O.o,M.o,by rw[I.o];exact K.o,by rw[H.o];exact L.o⟩
    case measure=>simp[intOf];omega
   .rw[hc]at d j X;obtain⟨x,t,z,_,l⟩:∃x r,q.N=x::r/\(∀s∈x,jm s=true)/\(ei x).size<=4096:=by simpa[vL]using d.o
    have H:=aa (show pl ((bI c).take (k+1)) m={q with N:=t} by rw[j.o];show{q with N:=q.N.tail}=_;rw[z];rfl);have I:=aa (by rw[X.o,<-List.append_assoc];show _++cG (ei (q.N.headD []))=_;rw[z];rfl:[kd]++mf ((bI c).take (k+1)) m=([kd]++mf ((bI c).take k) m)++cG (ei x));obtain⟨v0,Q⟩:=Zu x t z Z.o (Nat.le_trans b.o G.o.1) KZ.o KM.o;have HP:=aa Q;have P:=aa l;have a3:=aa (show x.length<=1000000 by have:=DB x;omega);clear HL d j X z l Q
    go_wp2_with fail
    refine HP.o.mono ?_;rintro e W4 ⟨rfl,aZ,⟨v,h1,Y⟩,A⟩;have a4:=aa aZ;clear aZ;have n:=aa h1;have o:=aa Y;have u:=aa (gH.other KO.o Z.o an (Nat.ne_of_lt G.o.2) A);have f:=aa (V.o.grown A V.o.size (λp Q=>by injection Q with Q;have:=G.o;omega));have J:=aa (Nat.le_trans KG.o A.size);clear h1 Y A V Z KO KM
    go_wp2_with fail
    refine(Oq v0 x a3.o (dp P.o) F F _ W4 a4.o u.o (dp al.o) J.o).mono ?_;rintro e W5 ⟨rfl,h5,y⟩;have K:=aa h5;have L:=aa (n.o.same (eR.ym y.1 (Nat.le_trans b.o a.o.1) (Nat.le_trans b.o a.o.1)));have M:=aa (show eO W5 g kd C R v E from Whole.Pb o.o y.2 (Nat.ne_of_gt G.o.2) an);have O:=aa (f.o.trans (y.1.below a.o.1 a.o.1));clear h5 y u n o f
    go_wp2_with fail
    go_roundw
    case rel=>exact⟨k+1,C,R,v,E,af,by go_num,ad.o,O.o,M.o,by rw[I.o];exact K.o,by rw[H.o];exact L.o⟩
    case measure=>simp[intOf];omega
   .rw[hc]at d j X;obtain⟨x,t,z,l⟩:∃x r,q.S=x::r/\x.size=16:=by simpa[vL]using d.o
    have H:=aa (show pl ((bI c).take (k+1)) m={q with S:=t} by rw[j.o];show{q with S:=q.S.tail}=_;rw[z];rfl);have I:=aa (by rw[X.o,<-List.append_assoc];show _++bI (q.S.headD ⟨#[]⟩)=_;rw[z];rfl:[kd]++mf ((bI c).take (k+1)) m=([kd]++mf ((bI c).take k) m)++bI x);have HP:=aa (K7 x t z Z.o (Nat.le_trans b.o G.o.1) KZ.o KM.o);have P:=aa l;clear HL d j X z l
    go_wp2_with fail
    refine HP.o.mono ?_;rintro e W4 ⟨rfl,⟨v,h1,Y⟩,A⟩;have n:=aa h1;have o:=aa Y;have u:=aa (gH.other KO.o Z.o an (Nat.ne_of_lt G.o.2) A);have f:=aa (V.o.grown A V.o.size (λp Q=>by injection Q with Q;have:=G.o;omega));have J:=aa (Nat.le_trans KG.o A.size);clear h1 Y A V Z KO KM
    go_wp2_with fail
    refine(wT x (dp P.o) F F _ W4 u.o (dp al.o) J.o).mono ?_;rintro e W5 ⟨rfl,h5,y⟩;have K:=aa h5;have L:=aa (n.o.same (eR.ym y.1 (Nat.le_trans b.o a.o.1) (Nat.le_trans b.o a.o.1)));have M:=aa (show eO W5 g kd C v D E from Whole.Pb o.o y.2 (Nat.ne_of_gt G.o.2) an);have O:=aa (f.o.trans (y.1.below a.o.1 a.o.1));clear h5 y u n o f
    go_wp2_with fail
    go_roundw
    case rel=>exact⟨k+1,C,v,D,E,af,by go_num,ad.o,O.o,M.o,by rw[I.o];exact K.o,by rw[H.o];exact L.o⟩
    case measure=>simp[intOf];omega
   .rw[hc]at d j X;obtain⟨x,t,z,l⟩:∃x r,q.S=x::r/\x.size<=32768:=by simpa[vL]using d.o
    have H:=aa (show pl ((bI c).take (k+1)) m={q with S:=t} by rw[j.o];show{q with S:=q.S.tail}=_;rw[z];rfl);have I:=aa (by rw[X.o,<-List.append_assoc];show _++bI (q.S.headD ⟨#[]⟩)=_;rw[z];rfl:[kd]++mf ((bI c).take (k+1)) m=([kd]++mf ((bI c).take k) m)++bI x);have HP:=aa (K7 x t z Z.o (Nat.le_trans b.o G.o.1) KZ.o KM.o);have P:=aa l;clear HL d j X z l
    go_wp2_with fail
    refine HP.o.mono ?_;rintro e W4 ⟨rfl,⟨v,h1,Y⟩,A⟩;have n:=aa h1;have o:=aa Y;have u:=aa (gH.other KO.o Z.o an (Nat.ne_of_lt G.o.2) A);have f:=aa (V.o.grown A V.o.size (λp Q=>by injection Q with Q;have:=G.o;omega));have J:=aa (Nat.le_trans KG.o A.size);clear h1 Y A V Z KO KM
    go_wp2_with fail
    refine(wT x (dp P.o) F F _ W4 u.o (dp al.o) J.o).mono ?_;rintro e W5 ⟨rfl,h5,y⟩;have K:=aa h5;have L:=aa (n.o.same (eR.ym y.1 (Nat.le_trans b.o a.o.1) (Nat.le_trans b.o a.o.1)));have M:=aa (show eO W5 g kd C v D E from Whole.Pb o.o y.2 (Nat.ne_of_gt G.o.2) an);have O:=aa (f.o.trans (y.1.below a.o.1 a.o.1));clear h5 y u n o f
    go_wp2_with fail
    go_roundw
    case rel=>exact⟨k+1,C,v,D,E,af,by go_num,ad.o,O.o,M.o,by rw[I.o];exact K.o,by rw[H.o];exact L.o⟩
    case measure=>simp[intOf];omega
  .obtain rfl:k=c.size:=af
   have a5:=aa (show ec F F ([kd]++mf (bI c) m) wr by
    have h:=KO.o;rwa[List.take_of_length_le (by rw[aj];exact Nat.le_refl _)]at h)
   go_wp2_with fail
   refine(fK F F _ (λv hv=>by
    rcases List.mem_append.1 hv with h|h
    .obtain rfl:=List.mem_singleton.1 h;have:=a1.o;omega
    .exact AF _ _ v h) wr (iJ.of a5.o) bj).mono ?_
   rintro e W9 ⟨rfl,_,hA⟩;have a6:=aa (V.o.trans (hA.below a.o.1 a.o.1));clear hA
   go_wp2_with fail
   go_ret
   exact⟨by rw[aX.o];rfl,a6.o⟩
end Go.Proofs.P
namespace Go.Spk
open Go.Proofs.P
theorem wi{a b}(h:bI a=bI b):a=b:=by rw[<-fq a,h,fq]
theorem Mo(r:List UInt8):∀x:List UInt8,(44:UInt8)∉x->Lib.index (x++44::r) [44]=((x.length:Nat):Int)
 | [],_=>by rw[eo,Lib.index];simp[List.isPrefixOf]
 |b::l,h=>by
  have a:¬(44:UInt8)=b:=λe=>h (by simp[e]);have c:([44]:List UInt8).isPrefixOf (b::(l++44::r))=false:=by simp[List.isPrefixOf,a]
  have d:=Mo r l (λe=>h (cj _ e));show Lib.index (b::(l++44::r)) [44]=_;rw[Lib.index,c,d];simp
theorem GR:∀x:List UInt8,(44:UInt8)∉x->Lib.index x [44]= -1
 | [],_=>by simp[Lib.index]
 |b::l,h=>by
  have a:¬(44:UInt8)=b:=λe=>h (by simp[e]);have c:([44]:List UInt8).isPrefixOf (b::l)=false:=by simp[List.isPrefixOf,a]
  rw[Lib.index,c,GR l (λe=>h (cj _ e))];simp
theorem Oa:ei []=⟨#[]⟩:=rfl
theorem pO(x:bB):ei [x]=x:=by
 unfold ei;rw[List.map_cons,List.map_nil,Lib.join_one]
theorem AX(x y:bB)(r:eL):(ei (x::y::r)).data.toList=x.data.toList++44::(ei (y::r)).data.toList:=by
 unfold ei Lib.join;simp[List.intercalate]
theorem sy(x y:bB)(r:eL):bI (ei (x::y::r))=bI x++44::bI (ei (y::r)):=by
 unfold bI;rw[AX];simp
theorem Bz:∀l:List ByteArray,l≠ []->(∀x∈l,(44:UInt8)∉x.data.toList)->qp (ei l)=l
 | [],h,_=>absurd rfl h
 | [x],_,b=>by
  have c:Lib.indexB x ⟨#[44]⟩= -1:=GR _ (b x (jg ..));unfold qp;rw[pO,Lib.countB_miss x _ c,Lib.splitB_zero]
 |x::y::r,_,b=>by
  have e:=Bz (y::r) bj (λz i=>b z (cj _ i));obtain⟨s,d⟩:=aP (ei (x::y::r));have a:bI s=bI x++44::bI (ei (y::r)):=by rw[d,sy]
  have c:Lib.indexB s ⟨#[44]⟩=((x.size:Nat):Int):=by
   have f:=Mo (ei (y::r)).data.toList x.data.toList (b x (jg ..));rw[<-AX,<-d]at f;exact f.trans bj
  have j:s.extract 0 (x.size+0)=x:=wi (by rw[oh,a];simp[<-aj])
  have g:s.extract (x.size+(ByteArray.mk #[44]).size) s.size=ei (y::r):=wi (by
   rw[gQ,a,show(ByteArray.mk #[44]).size=1 from rfl,<-aj x];simp)
  unfold qp at e⊢;rw[<-d];have k:=Lib.countB_hit s ⟨#[44]⟩ x.size an c;rw[g]at k;rw[show Lib.countB s ⟨#[44]⟩=Lib.countB (ei (y::r)) ⟨#[44]⟩+1 by omega,Lib.splitB_hit ⟨#[44]⟩ 0 _ s x.size c];rw[j,g,e]
end Go.Spk
namespace Go.Proofs.P
theorem Ks{s}(h:jm s=true):(44:UInt8)∉s.data.toList:=λa=>by
 unfold jm at h;rw[Bool.and_eq_true]at h;have b:=fX.1 h.1 44 (by unfold bI;exact fZ.2 ⟨44,a,rfl⟩);revert b;decide
def Ld(a b d:Addr)(c:Int)(r:iV×de):iV×de:=
 if c=117 then((eT a 4 r.1).2,{r.2 with U:=r.2.U++ [(eT a 4 r.1).1.toNat]})
 else if c=98 then((eT a 1 r.1).2,{r.2 with B:=r.2.B++ [decide ((eT a 1 r.1).1≠0)]})
 else if c=115 then((fh a b 32768 r.1).2,{r.2 with S:=r.2.S++ [(fh a b 32768 r.1).1]})
 else if c=110 then((gg a b d r.1).2,{r.2 with N:=r.2.N++ [(gg a b d r.1).1]})
 else if c=99 then((gj a 16 r.1).2,{r.2 with S:=r.2.S++ [(gj a 16 r.1).1]})
 else((gj a r.1.left r.1).2,{r.2 with S:=r.2.S++ [(gj a r.1.left r.1).1]})
def ny(a b d:Addr)(L:List Int)(r:iV×de):iV×de:=L.foldl (λr c=>Ld a b d c r) r
theorem Lc(a b d:Addr)(L:aR)(c:Int)(r:iV×de):ny a b d (L++ [c]) r=Ld a b d c (ny a b d L r):=by unfold ny;rw[List.foldl_append];rfl
theorem ql(a b d:Addr)(L:aR)(c:Int)(r:iV×de):ny a b d (c::L) r=ny a b d L (Ld a b d c r):=rfl
def kD(k:Int):de:=⟨k,[],[],[],[]⟩
def rh(b d c e:Addr)(s:ByteArray):de ⊕ Addr:=
 match (eT b 1 (.ok s)).2 with
 | .bad a=> .inr a
 | .ok t=>match dh (eT b 1 (.ok s)).1 with
  |none=> .inr e
  |some f=>match wy c (ny b d c (bI f) (.ok t,kD (eT b 1 (.ok s)).1)).1 with
   | .bad a=> .inr a
   | .ok _=> .inl (ny b d c (bI f) (.ok t,kD (eT b 1 (.ok s)).1)).2
def o9(a b:de):de:={a with U:=a.U++b.U,S:=a.S++b.S,N:=a.N++b.N,B:=a.B++b.B}
def Oy(a b:de):de:={b with U:=a.U++b.U,S:=a.S++b.S,N:=a.N++b.N,B:=a.B++b.B}
theorem Gi(m a b:de):o9 (o9 m a) b=o9 m (Oy a b):=by unfold o9 Oy;simp
theorem VY(b d e:Addr)(c:Int)(a:Addr)(m:de):(Ld b d e c (.bad a,m)).1= .bad a:=by
 unfold Ld
 split
 .rfl
 .split
  .rfl
  .split
   .rfl
   .split
    .rfl
    .split<;>rfl
theorem D2(b d e:Addr):∀(L:aR) (a:Addr) (m:de),(ny b d e L (.bad a,m)).1= .bad a
 | [],a,m=>rfl
 |c::r,a,m=>by
  rw[ql];have h:=VY b d e c a m;generalize Ld b d e c (.bad a,m)=R at*;obtain⟨f,g⟩:=R;obtain rfl:f= .bad a:=h;exact D2 b d e r a g
theorem Oi{a b d}{c}{t}(h:(gg a b d c).2= .ok t):(∀s∈(gg a b d c).1,jm s=true)/\(fh a b 4096 c).2= .ok t/\((gg a b d c).1= []\/(gg a b d c).1=qp (fh a b 4096 c).1):=by
 unfold gg at h⊢;have e:=sJ a b 4096 c;generalize fh a b 4096 c=r at*;dsimp only at h⊢
 split
 .rename_i g;rw[if_pos g]at h;exact⟨(λs e=>by cases e),h,.inl rfl⟩
 .rename_i g;rw[if_neg g]at h
  split
  .rename_i f;rw[if_pos f]at h;exact⟨λs e=>List.all_eq_true.1 f s e,h,.inr rfl⟩
  .rename_i f;rw[if_neg f]at h;exfalso;revert h;dsimp only;cases r.2<;>(intro h;cases h)
theorem zu(s:bB):∀k,(ei (Lib.splitB ⟨#[44]⟩ 0 k s)).size<=s.size+0:=by
 intro k
 induction k generalizing s with
 |zero=>rw[Lib.splitB_zero,pO];omega
 |succ k e=>
  rcases Lib.indexB_cases s ⟨#[44]⟩with a|⟨i,a,b⟩
  .rw[Lib.splitB_miss _ _ _ _ a,pO];omega
  .rw[Lib.splitB_hit _ _ _ _ i a];have c:=e (s.extract (i+(ByteArray.mk #[44]).size) s.size);rw[ByteArray.size_extract,show(ByteArray.mk #[44]).size=1 from rfl]at c;have f:i+1<=s.size:=by have:(ByteArray.mk #[44]).size=1:=rfl;omega
   cases d:Lib.splitB ⟨#[44]⟩ 0 k (s.extract (i+(ByteArray.mk #[44]).size) s.size)with
   |nil=>rw[pO,ByteArray.size_extract];omega
   |cons y r=>
    rw[show(ByteArray.mk #[44]).size=1 from rfl]at d;rw[d]at c;rw[<-aj,sy,am,fw,aj,aj,ByteArray.size_extract];omega
theorem w9{aE}{n}{s t}(h:(gj aE n (.ok s)).2= .ok t):(gj aE n (.ok s)).1.size=n/\t.size<=s.size:=by
 by_cases a:n<=s.size
 .rw[qV a]at h⊢;injection h with h;subst h;simp;omega
 .rw[uF a]at h;cases h
theorem Fc{aE}{n}{s t}(h:(eT aE n (.ok s)).2= .ok t):t.size<=s.size:=(w9 h).2
theorem IV{aE aB}{n}{s t}(h:(fh aE aB n (.ok s)).2= .ok t):t.size<=s.size:=by
 have:=vR aE aB n (.ok s);rw[h]at this;exact this
theorem ZB{b e f}{c}(i:Aj c){s t}(m:de)(n:s.size<=32768)(h:(Ld b e f c (.ok s,m)).1= .ok t):
 t.size<=s.size/\ ∃a:de,(Ld b e f c (.ok s,m)).2=o9 m a/\ ∀q:de,vL c (Oy a q)/\dM c (Oy a q)=q:=by
 rcases i with rfl|rfl|rfl|rfl|rfl|rfl
 .have d:(eT b 4 (.ok s)).2= .ok t:=h;have j:=uE b 4 (.ok s);rw[show(256:Int)^4=4294967296 from rfl]at j;refine⟨Fc d,{kD 0 with U:= [(eT b 4 (.ok s)).1.toNat]},?_,λq=>⟨⟨_,_,rfl,af⟩,rfl⟩⟩;show{m with U:=m.U++ [(eT b 4 (.ok s)).1.toNat]}=_;unfold o9 kD;simp
 .have d:(eT b 1 (.ok s)).2= .ok t:=h;refine⟨Fc d,{kD 0 with B:= [decide ((eT b 1 (.ok s)).1≠0)]},?_,λq=>⟨⟨_,_,rfl⟩,rfl⟩⟩;show{m with B:=m.B++ [decide ((eT b 1 (.ok s)).1≠0)]}=_;unfold o9 kD;simp
 .have d:(fh b e 32768 (.ok s)).2= .ok t:=h;refine⟨IV d,{kD 0 with S:= [(fh b e 32768 (.ok s)).1]},?_,λq=>⟨⟨_,_,rfl,sJ _ _ _ _⟩,rfl⟩⟩;show{m with S:=m.S++ [(fh b e 32768 (.ok s)).1]}=_;unfold o9 kD;simp
 .have d:(gg b e f (.ok s)).2= .ok t:=h;obtain⟨k,l,g⟩:=Oi d;refine⟨IV l,{kD 0 with N:= [(gg b e f (.ok s)).1]},?_,λq=>⟨⟨_,_,rfl,k,?_⟩,rfl⟩⟩
  .show{m with N:=m.N++ [(gg b e f (.ok s)).1]}=_;unfold o9 kD;simp
  .rcases g with g|g
   .rw[g];decide
   .rw[g];have o:=zu (fh b e 4096 (.ok s)).1 (Lib.countB (fh b e 4096 (.ok s)).1 ⟨#[44]⟩);have p:=sJ b e 4096 (.ok s);unfold qp;omega
 .have d:(gj b 16 (.ok s)).2= .ok t:=h;refine⟨(w9 d).2,{kD 0 with S:= [(gj b 16 (.ok s)).1]},?_,λq=>⟨⟨_,_,rfl,(w9 d).1⟩,rfl⟩⟩;show{m with S:=m.S++ [(gj b 16 (.ok s)).1]}=_;unfold o9 kD;simp
 .have d:(gj b s.size (.ok s)).2= .ok t:=h;refine⟨(w9 d).2,{kD 0 with S:= [(gj b s.size (.ok s)).1]},?_,λq=>⟨⟨_,_,rfl,by have:=(w9 d).1;omega⟩,rfl⟩⟩;show{m with S:=m.S++ [(gj b s.size (.ok s)).1]}=_;unfold o9 kD;simp
theorem Ix{d e f:Addr}:∀(L:aR),(∀c∈L,Aj c)-> ∀(s t:bB) (m:de),s.size<=32768->(ny d e f L (.ok s,m)).1= .ok t-> ∃q:de,(ny d e f L (.ok s,m)).2=o9 m q/\I7 L q
 | [],_,s,t,m,_,_=>⟨kD 0,by show m=_;unfold o9 kD;simp,rfl,rfl,rfl,rfl⟩
 |c::r,g,s,t,m,k,h=>by
  rw[ql]at h⊢;have l:= @ZB d e f c (g c (jg ..)) s;obtain⟨R,n⟩:=aP (Ld d e f c (.ok s,m));have b:=λt=>l (t:=t) m k;rw[<-n]at h b⊢;obtain⟨o,i⟩:=R;cases o with
  |bad a=>rw[D2]at h;cases h
  |ok s2=>
   obtain⟨y,a,p,j⟩:=b s2 rfl;obtain⟨q,u,v⟩:=Ix r (λx w=>g x (cj _ w)) s2 t i af h;refine⟨Oy a q,?_,(j q).1,?_⟩
   .rw[u,show i=o9 m a from p,Gi]
   .rw[(j q).2];exact v
theorem Ox(c k:Int)(m:de):dM c {m with kind:=k}={dM c m with kind:=k}:=by
 unfold dM
 split
 .rfl
 .split
  .rfl
  .split<;>rfl
theorem I9(k:Int):∀(L:List Int) (m:de),I7 L m->I7 L {m with kind:=k}
 | [],m,h=>h
 |c::r,m,h=>⟨h.1,by rw[Ox];exact I9 k r _ h.2⟩
theorem Ov{aE aB aF aK}{s}{m}(l:s.size<=32768)(h:rh aE aB aF aK s= .inl m):Cb m:=by
 unfold rh at h
 split at h
 .cases h
 .rename_i t g
  split at h
  .cases h
  .rename_i f d
   split at h
   .cases h
   .rename_i u e;injection h with h;have i:=Fc g;obtain⟨j,b⟩:=aP ((ny aE aB aF (bI f) (.ok t,kD (eT aE 1 (.ok s)).1)).1);rw[<-b]at e;cases j with
    |bad a=>cases e
    |ok v=>
     obtain⟨q,c,k⟩:=Ix (bI f) (nt d) t v _ af b.symm;rw[h]at c;refine⟨f,?_,?_⟩
     .rw[c];exact d
     .rw[c];have:=I9 (eT aE 1 (.ok s)).1 (bI f) q k;unfold o9 kD;simpa using this
theorem xa(a:Addr){s}{xs rest}(h:bI s=xs++rest):∃x t,gj a xs.length (.ok s)=(x,.ok t)/\bI x=xs/\bI t=rest:=by
 have b:s.size=xs.length+rest.length:=by rw[<-aj,h,am]
 refine⟨_,_,qV af,?_,?_⟩
 .rw[oh,h];simp
 .rw[gQ,h];simp
theorem Ib(a:Addr){s}{rest}(n:Nat)(d:n<4294967296)(h:bI s=qJ n 4 4++rest):∃t,eT a 4 (.ok s)=((n:Int),.ok t)/\bI t=rest:=by
 obtain⟨x,t,b,c,e⟩:=xa a h;rw[eW]at b;refine⟨t,?_,e⟩;have f:x.size=4:=by rw[<-aj,c,eW]
 unfold eT;rw[b];dsimp only;rw[f,c,<-List.append_nil (qJ n 4 4),RG n d]
theorem Ia(a:Addr){s}{rest}(b:Int)(h:bI s= [b]++rest):∃t,eT a 1 (.ok s)=(b,.ok t)/\bI t=rest:=by
 obtain⟨x,t,d,c,e⟩:=xa a h;refine⟨t,?_,e⟩;have f:x.size=1:=by rw[<-aj,c];rfl
 unfold eT;rw[show gj a 1 (.ok s)=(x,.ok t)from d];dsimp only;rw[f,c];simp[ph,ix]
theorem xr(b c:Addr){s x}{rest}(a:Nat)(hm:a<4294967296)(j:x.size<=a)(h:bI s=cG x++rest):∃t,fh b c a (.ok s)=(x,.ok t)/\bI t=rest:=by
 unfold cG at h;rw[List.append_assoc]at h;obtain⟨t,d,e⟩:=Ib b x.size af h;obtain⟨y,u,f,g,i⟩:=xa b e;refine⟨u,?_,i⟩;unfold fh;rw[d];dsimp only;rw[show xT c ((x.size:Nat):Int) a (.ok t)= .ok t from if_neg af,Int.toNat_natCast,<-aj x,f,wi g]
theorem Ol(b c e:Addr){s}{rest}(l:eL)(a:∀x∈l,jm x=true)(hz:(ei l).size<=4096)(h:bI s=cG (ei l)++rest):∃t,gg b c e (.ok s)=(l,.ok t)/\bI t=rest:=by
 obtain⟨t,f,g⟩:=xr b c 4096 an hz h;refine⟨t,?_,g⟩;unfold gg;rw[f];dsimp only;cases l with
 |nil=>rfl
 |cons x r=>
  have i:(ei (x::r)).size≠0:=by
   have d:=a x (List.mem_cons_self ..);have k:1<=x.size:=by unfold jm at d;simp at d;omega
   cases r with
   |nil=>rw[pO];omega
   |cons y r=>rw[<-aj,sy,List.length_append,List.length_cons];omega
  rw[if_neg i,Bz (x::r) bj (λy j=>Ks (a y j)),if_pos (List.all_eq_true.2 a)]
def Fh(c:Int)(m:de):de:=
 if c=117 then{kD 0 with U:= [m.U.headD 0]}else if c=98 then{kD 0 with B:= [m.B.headD false]}else if c=110 then{kD 0 with N:= [m.N.headD []]}else{kD 0 with S:= [m.S.headD ⟨#[]⟩]}
theorem VZ(a f g:Addr){c}(n:Aj c){q}(hq:vL c q){s}{rest}(h:bI s=ou c q++rest)(o:c=114->rest= [])(m:de):
 ∃t,Ld a f g c (.ok s,m)=(.ok t,o9 m (Fh c q))/\bI t=rest/\Oy (Fh c q) (dM c q)=q:=by
 obtain⟨z,p,j,v,w⟩:=q;rcases n with rfl|rfl|rfl|rfl|rfl|rfl
 .obtain⟨x,t,rfl,e⟩:∃x r,p=x::r/\x<4294967296:=by simpa[vL]using hq
  obtain⟨u,b,d⟩:=Ib a x e h;refine⟨u,?_,d,rfl⟩;show((eT a 4 (.ok s)).2,{m with U:=m.U++ [(eT a 4 (.ok s)).1.toNat]})=_;rw[b];unfold o9 Fh kD;simp
 .obtain⟨x,t,rfl⟩:∃x r,w=x::r:=by simpa[vL]using hq
  obtain⟨u,b,d⟩:=Ia a (if x then 1 else 0) h;refine⟨u,?_,d,rfl⟩;show((eT a 1 (.ok s)).2,{m with B:=m.B++ [decide ((eT a 1 (.ok s)).1≠0)]})=_;rw[b];unfold o9 Fh kD;cases x<;>simp
 .obtain⟨x,t,rfl,e⟩:∃x r,j=x::r/\x.size<=32768:=by simpa[vL]using hq
  obtain⟨u,b,d⟩:=xr a f 32768 an e h;refine⟨u,?_,d,rfl⟩;show((fh a f 32768 (.ok s)).2,{m with S:=m.S++ [(fh a f 32768 (.ok s)).1]})=_;rw[b];unfold o9 Fh kD;simp
 .obtain⟨x,t,rfl,e,k⟩:∃x r,v=x::r/\(∀s∈x,jm s=true)/\(ei x).size<=4096:=by simpa[vL]using hq
  obtain⟨u,b,d⟩:=Ol a f g x e k h;refine⟨u,?_,d,rfl⟩;show((gg a f g (.ok s)).2,{m with N:=m.N++ [(gg a f g (.ok s)).1]})=_;rw[b];unfold o9 Fh kD;simp
 .obtain⟨x,t,rfl,e⟩:∃x r,j=x::r/\x.size=16:=by simpa[vL]using hq
  have i:bI s=bI x++rest:=h;obtain⟨y,u,b,d,l⟩:=xa a i;rw[aj,e]at b;refine⟨u,?_,l,rfl⟩;show((gj a 16 (.ok s)).2,{m with S:=m.S++ [(gj a 16 (.ok s)).1]})=_;rw[b,wi d];unfold o9 Fh kD;simp
 .obtain⟨x,t,rfl,e⟩:∃x r,j=x::r/\x.size<=32768:=by simpa[vL]using hq
  have i:bI s=bI x++rest:=h;obtain⟨y,u,b,d,l⟩:=xa a i;have k:s.size=x.size:=by rw[<-aj,i,o rfl,bP,aj]
  rw[aj]at b;refine⟨u,?_,l,rfl⟩;show((gj a s.size (.ok s)).2,{m with S:=m.S++ [(gj a s.size (.ok s)).1]})=_;rw[k,b,wi d];unfold o9 Fh kD;simp
def Ha:List Int->Prop
 | []=>True
 |c::r=>(c=114->r= [])/\Ha r
instance abW:(L:List Int)->Decidable (Ha L)
 | []=>isTrue trivial
 |c::r=> @instDecidableAnd _ _ _ (abW r)
theorem D3(b d f:Addr):∀(L:aR),(∀c∈L,Aj c)->Ha L-> ∀(q m:de) (s:bB),I7 L q->bI s=mf L q-> ∃t,ny b d f L (.ok s,m)=(.ok t,o9 m q)/\t.size=0
 | [],_,_,q,m,s,a,h=>by
  obtain⟨g,i,j,k⟩:=a;refine⟨s,?_,by rw[<-aj,h];rfl⟩;show(iV.ok s,m)=_;unfold o9;rw[g,i,j,k];simp
 |c::r,l,n,q,m,s,a,h=>by
  obtain⟨t,g,i,j⟩:=VZ b d f (l c (jg ..)) a.1 (rest:=mf r (dM c q)) h (λe=>by rw[n.1 e];rfl) m;obtain⟨u,k,o⟩:=D3 b d f r (λx p=>l x (cj _ p)) n.2 (dM c q) (o9 m (Fh c q)) t a.2 i;refine⟨u,?_,o⟩;rw[ql,g,k,Gi,j]
theorem Cy{k}{f}(h:dh k=some f):Ha (bI f):=by
 have:∀r∈nS,Ha (bI r.2.2):=an;unfold dh tE at h;obtain⟨r,a,rfl⟩:=bN.1 h;exact this r (List.mem_of_find?_eq_some a)
theorem pB{m}{f}(hf:dh m.kind=some f):bI (db m)= [m.kind]++mf (bI f) m:=by
 have a:=vd hf;unfold db;rw[hf];dsimp only;rw[cJ Rx];unfold Rw;rw[Int.emod_eq_of_lt af af]
theorem Ow(b d c e:Addr){m}(hm:Cb m):rh b d c e (db m)= .inl m:=by
 obtain⟨f,a,g⟩:=hm;obtain⟨t,h,i⟩:=Ia b m.kind (pB a);obtain⟨u,j,k⟩:=D3 b d c (bI f) (nt a) (Cy a) m (kD m.kind) t g i;unfold rh;rw[h];dsimp only;rw[a];dsimp only;rw[j];dsimp only;rw[show wy c (.ok u)= .ok u from if_pos k]
 rfl
end Go.Proofs.P
