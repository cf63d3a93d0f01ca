/- Lemmas on which SessionPins rests. -/
import Derived.Lib.BufferWrite
import Derived.Lib.SplitLaws
import Derived.Test.YtcjcibnggioknaaGreatDoorZ07
import Derived.Test.YtcjcibnggioknaaGreatDoorZ08
set_option maxRecDepth 100000
set_option maxHeartbeats 40000000
set_option linter.unusedVariables false
open Go.RowKit Go.Spk
open Go.Proofs.Tryz
namespace Go.Spk
def ee(w:World)(v:Value)(l:List ByteArray):Prop:=
 (l= []/\ ∃A c,v= .slice A 0 c)\/(∃g o c,v= .slice (some ⟨g,o,none⟩) l.length c/\l.length<=c/\g<w.heap.size/\ ∀j x,l[j]?=some x->w.cell? ⟨g,o+j,none⟩=some (.string x))
theorem ee.below{w w'}{v}{l}(h:ee w v l){B}(a:Below B w w')(d:w.heap.size<=B):ee w' v l:=by
 rcases h with h|⟨g,o,c,e,f,b,i⟩
 .exact .inl h
 .exact .inr ⟨g,o,c,e,f,aL b a.size,λj x k=>(a.cell (p:=⟨g,o+j,none⟩) (aL b d)).trans (i j x k)⟩
theorem St.cell_far{w W}{g a o i}{v u}{s}(h:St w g o [v] s W)(c:w.cell? ⟨a,i,none⟩=some u)(b:a≠g):W.cell? ⟨a,i,none⟩=some u:=
 (df (h.grown.block a (aH c) (bE b))).trans c
theorem Vx{w}{x}{m}(h:jQ w x m):jQ w.drew x m=True:=eq_true h
theorem P8(w:ay)(x:cH)(m:Nat):jx w.drew x m=jx w x m:=rfl
def gI(l:List ByteArray):List Int:=l.flatMap bI
theorem DC:∀xs:List (List UInt8),Lib.join xs []=xs.flatten
 | []=>rfl
 | [x]=>by rw[Lib.join_one];simp
 |x::y::r=>by
  have a:=DC (y::r);unfold Lib.join at*;rw[vq,<-a];simp[List.intercalate]
theorem L0(l:List UInt8):bI ⟨l.toArray⟩=l.map λb=>(b.toNat:Int):=by simp[bI]
theorem LZ(l:eL):bI ⟨(Lib.join (l.map (·.data.toList)) (ByteArray.mk #[]).data.toList).toArray⟩=gI l:=by
 rw[L0,show(ByteArray.mk #[]).data.toList= []from rfl,DC];unfold gI
 induction l with
 |nil=>rfl
 |cons x r a=>simp only[List.map_cons,List.flatten_cons,List.map_append,List.flatMap_cons,a];rfl
theorem Gh(l:eL):(Lib.join (l.map (·.data.toList)) (ByteArray.mk #[]).data.toList).length=(gI l).length:=by
 rw[<-LZ,L0,aM]
theorem Iz(P:Nat):bI ⟨(Lib.repeatL (ByteArray.mk #[0]).data.toList P).toArray⟩=List.replicate P 0:=by
 rw[L0]
 induction P with
 |zero=>rfl
 |succ P a=>rw[Lib.repeatL,cN,a];rfl
theorem mI(a b:bB):bI (a++b)=bI a++bI b:=by simp[bI]
theorem og(s:bB)(i j:Nat):bI (s.extract i j)=((bI s).take j).drop i:=by
 unfold bI;rw[ByteArray.data_extract,Array.toList_extract,<-List.map_take,<-List.map_drop];congr 1;simp[List.extract_eq_take_drop,List.drop_take]
end Go.Spk
namespace Go.Proofs.P
theorem GY(v:cH)(l:eL)(w:ay)(h:ee w v l)(hl:l.length<=1000000)(j:(gI l).length<=100000000):
 Calls prog 90 #[v,.string ⟨#[]⟩] w λe a=>(∃s,e= .returned (.string s)/\bI s=gI l)/\Below w.heap.size w a:=by
 rcases h with⟨rfl,A,c,rfl⟩|⟨g,o,c,rfl,b,d,f⟩
 .refine(strings_Join_none A c ⟨#[]⟩ w).mono ?_;rintro e a ⟨rfl,rfl⟩;exact⟨⟨_,rfl,rfl⟩,aw _ _⟩
 .refine(strings_Join g o c l ⟨#[]⟩ w f d af b (by rw[Gh];omega)).mono ?_;rintro e a ⟨rfl,i⟩;exact⟨⟨_,rfl,LZ l⟩,i⟩
end Go.Proofs.P
namespace Go.Spk
def wy(b:Addr):iV->iV
 | .ok s=>if s.size=0 then .ok s else .bad b
 | .bad a=> .bad a
def DM(b:Int):Bool:=decide (33<=b)&&decide (b<=126)&&decide (b≠44)
def jm(s:ByteArray):Bool:=(bI s).all DM&&decide (1<=s.size/\s.size<=64)
theorem Dc(s:bB)(k:Nat)(h:k<s.size):(bI s)[k]?=some ((s[k].toNat:Nat):Int):=by
 have a:k<s.data.toList.length:=by simpa using h
 unfold bI;rw[bi,aQ a]
 rfl
theorem uW{p}{l:aR}{k}{x}(h:l[k]?=some x)(a:(l.take k).all p=true)(b:p x=true):(l.take (k+1)).all p=true:=by
 rw[mT,List.all_append,a,h];simp[b]
theorem LW{p}{l:aR}{k:Nat}{x}(h:l[k]?=some x)(a:p x=false):l.all p=false:=by grind
theorem p8{s:bB}(h:s.size≠0):s.toList.isEmpty=false:=by
 have b:¬s.toList= []:=λe=>by
  rw[nM]at e;have c:bI s= []:=by unfold bI;rw[e];rfl
  have a:(bI s).length=0:=by rw[c];rfl
  rw[aj]at a;exact h a
 simpa using b
end Go.Spk
namespace Go.Proofs.P
def AR:iV->Value
 | .ok _=> .nilIface
 | .bad a=>bM a
theorem Q8(g:Nat)(b:iV)(w:ay)(h:jF w g b):
 Calls prog 146 #[.pointer (some ⟨g,0,none⟩)] w λe c=>e= .returned (.int .i64 b.left)/\c=w:=by
 cases b with
 |ok s=>
  have c0:w.cell? ⟨g,0,none⟩=some (.string s):=by rw[Whole.at_ h];rfl
  clear h
  go_enter func146,ntmps146
  go_wp2_with fail
  go_ret
  exact⟨rfl,rfl⟩
 |bad a=>
  have c0:w.cell? ⟨g,0,none⟩=some (.string ⟨#[]⟩):=by rw[Whole.at_ h];rfl
  clear h
  go_enter func146,ntmps146
  go_wp2_with fail
  go_ret
  exact⟨rfl,rfl⟩
theorem Mp(g:Nat)(a:iV)(w:ay)(h:jF w g a):
 Calls prog 141 #[.pointer (some ⟨g,0,none⟩)] w λe b=>e= .returned (AR a)/\b=w:=by
 have c0:w.cell? ⟨g,1,none⟩=some (AR a):=by cases a<;>(rw[Whole.at_ h];rfl)
 generalize AR a=v at*;clear h
 go_enter func141,ntmps141
 go_wp2_with fail
 go_ret
 exact⟨rfl,rfl⟩
theorem EY(g:Nat)(i:iV)(b:Addr)(w:ay)(h:jF w g i)(n:w.cell? ⟨2,0,none⟩=some (bM b)):
 Calls prog 147 #[.pointer (some ⟨g,0,none⟩)] w λe j=>e= .returned (AR (wy b i))/\jF j g (wy b i)/\j5 w.heap.size g w j:=by
 cases i with
 |ok s=>
  have c0:w.cell? ⟨g,0,none⟩=some (.string s):=by rw[Whole.at_ h];rfl
  have c1:w.cell? ⟨g,1,none⟩=some .nilIface:=by rw[Whole.at_ h];rfl
  by_cases f:s.size=0
  .obtain rfl:s=⟨#[]⟩:=by
    obtain⟨d⟩:=s;congr 1;exact o6.1 f
   have c:=aa h;clear h f;rw[show wy b (.ok ⟨#[]⟩)= .ok ⟨#[]⟩from rfl]
   go_enter func147,ntmps147
   go_wp2_with fail
   go_ret
   exact⟨rfl,c.o,j5.refl _ _ _⟩
  .have o:=p8 f;have k:wy b (.ok s)= .bad b:=aq f;rw[k];have p:=aa (tH g (.ok s) b w h);clear h k f;unfold bM at n
   go_enter func147,ntmps147
   go_wp2_with fail
   refine p.o.mono ?_;rintro e W ⟨rfl,l,m⟩;have c:=aa (show jF W g (.bad b)from l);have q:=aa (j5.bZ m);have c2:W.cell? ⟨g,1,none⟩=some (bM b):=by rw[Whole.at_ c.o];rfl
   unfold bM at c2;clear l m c0 c1
   go_wp2_with fail
   go_ret
   exact⟨rfl,c.o,q.o⟩
 |bad a=>
  have c0:w.cell? ⟨g,0,none⟩=some (.string ⟨#[]⟩):=by rw[Whole.at_ h];rfl
  have c1:w.cell? ⟨g,1,none⟩=some (bM a):=by rw[Whole.at_ h];rfl
  have c:=aa h;unfold bM at c1;clear h;rw[show wy b (.bad a)= .bad a from rfl]
  go_enter func147,ntmps147
  go_wp2_with fail
  go_ret
  exact⟨rfl,c.o,j5.refl _ _ _⟩
theorem Ry(s:bB)(G:s.size<=1000000000)(w:ay):
 Calls prog 131 #[.string s] w λe A=>e= .returned (.bool (jm s))/\A=w:=by
 obtain⟨nb,m⟩:=aP (jm s);have h:=aa m;rw[<-m];clear m
 go_enter func131,ntmps131
 go_wp2_with fail
 go_loopw [6] (λi wr=> ∃k:Nat,k<=s.size/\i= .int .i64 k/\wr=w/\Hid (((bI s).take k).all DM=true)) (λi _=>s.size -(intOf i).toNat)
 case atStart=>exact⟨0,ce _,rfl,rfl,aa rfl⟩
 case round=>
  obtain⟨k,H,rfl,rfl,l⟩:=hrel
  by_cases t:k<s.size
  .have I:(k:Int)<s.size:=af;have f:=Dc s k t;obtain⟨b,x⟩:∃b:Nat,b=s[k].toNat:=⟨_,rfl⟩;have B:=aa f
   by_cases c:DM ((s[k].toNat:Nat):Int)=true
   .have u:=aa (uW f l.out c);have a:33<=s[k].toNat/\s[k].toNat<=126/\s[k].toNat≠44:=by unfold DM at c;simp at c;omega
    have y:¬((s[k].toNat:Nat):Int)<33:=af;have z:¬(126:Int)<((s[k].toNat:Nat):Int):=af;have C:(((s[k].toNat:Nat):Int)==44)=false:=by have:=a.2.2;simp;omega
    clear f c a x
    go_wp2_with fail
    go_roundw
    case rel=>exact⟨k+1,af,by go_num,by first|rfl|trivial,u.o⟩
    case measure=>simp[intOf];omega
   .have g:=aa (by rw[h.o];unfold jm;rw[LW f (ek c)];rfl:nb=false)
    have a:s[k].toNat<33\/126<s[k].toNat\/s[k].toNat=44:=by
     by_cases o:s[k].toNat<33
     .exact .inl o
     .by_cases r:126<s[k].toNat
      .exact .inr (.inl r)
      .refine .inr (.inr ?_)
       by_cases D:s[k].toNat=44
       .exact D
       .exfalso;apply c;unfold DM;simp;omega
    clear f c x
    by_cases o:s[k].toNat<33
    .have y:((s[k].toNat:Nat):Int)<33:=af;clear a o
     go_wp2_with fail
     go_ret
     exact⟨by rw[g.o];rfl,rfl⟩
    .have y:¬((s[k].toNat:Nat):Int)<33:=af
     by_cases r:126<s[k].toNat
     .have z:(126:Int)<((s[k].toNat:Nat):Int):=af;clear a o r
      go_wp2_with fail
      go_ret
      exact⟨by rw[g.o];rfl,rfl⟩
     .have z:¬(126:Int)<((s[k].toNat:Nat):Int):=af;have C:(((s[k].toNat:Nat):Int)==44)=true:=by simp;omega
      clear a o r
      go_wp2_with fail
      go_ret
      exact⟨by rw[g.o];rfl,rfl⟩
  .obtain rfl:k=s.size:=af;have j:(bI s).all DM=true:=by have:=l.out;rwa[bL (by rw[aj];exact ak _)]at this
   by_cases n:s.size=0
   .have p:=aa (by rw[h.o];unfold jm;rw[n,Bool.and_eq_false_iff];right;decide:nb=false)
    have v:s=⟨#[]⟩:=by
     obtain⟨d⟩:=s;congr 1;exact o6.1 n
    clear j n
    go_wp2_with fail
    go_ret
    exact⟨by rw[p.o];simp[v],rfl⟩
   .have E:=p8 n
    by_cases q:s.size<=64
    .have p:=aa (by rw[h.o];unfold jm;rw[j,Bool.true_and,decide_eq_true_eq];omega:nb=true);have F:(s.size:Int)<=64:=af;clear j n q
     go_wp2_with fail
     go_ret
     exact⟨by rw[p.o];rfl,rfl⟩
    .have p:=aa (by rw[h.o];unfold jm;rw[Bool.and_eq_false_iff];right;simp;omega:nb=false);have F:¬(s.size:Int)<=64:=af;clear j n q
     go_wp2_with fail
     go_ret
     exact⟨by rw[p.o];rfl,rfl⟩
end Go.Proofs.P
namespace Go.Spk
theorem QG(t:Nat):iY.getD t 0<18446744073709551616:=by
 have:∀x∈iY,x<18446744073709551616:=an
 by_cases h:t<iY.length
 .rw[bV,aQ h];exact this _ (nV h)
 .rw[bV,eI af];decide
theorem J2(b:Bool):eH (λi=>mQ b (iY.getD i 0)) (λ_=>0) 8 8=qD (iY.map (mQ b)):=
 yl (by rw[aM];rfl) (λi a=>by
  rw[aJ a,bV,bi,bV,aQ (by exact a)]
  rfl)
theorem Dd(n m k:Nat):tf n m (k+1)=tf n m k++ [((n/256^(m -1 -k) %256:Nat):Int)]:=rfl
theorem Oo(b:Bool)(l:iT)(k:Nat)(h:k<l.length):zy b (l.take (k+1))=zy b (l.take k)++tf (l.getD k 0) (jp b/8) (jp b/8):=by
 unfold zy;rw[mT,List.flatMap_append,aQ h];simp[List.getD,h]
end Go.Spk
namespace Go.Proofs.P
def dJ(w:World):Prop:=w.rangeAt 21 0 ((qD iY).map (Value.int .u64))
theorem dJ.at_{w}(h:dJ w){i}(a:i<8):w.cell? ⟨21,i,none⟩=some (.int .u64 ((iY.getD i 0:Nat):Int)):=by
 have b:=h i (.int .u64 ((iY.getD i 0:Nat):Int)) (by
  rw[bi];unfold qD;rw[bi];simp[List.getD,show i<iY.length from a])
 rwa[aW]at b
theorem dJ.below{w W}(h:dJ w)(b:Below w.heap.size w W):dJ W:=λj v c=>by
 have a:=h j v c;exact(b.cell (aH a)).trans a
theorem dJ.lt{w}(h:dJ w):21<w.heap.size:=aH (h.at_ (i:=0) an)
theorem Lk(a:aR)(b:a.length=8)(i:Nat)(d:i<8)(w:ay):(Instr.index 192 (.agg (ai .u64 a)) (.int .i64 i)).run prog w= .ok (.int .u64 (ix a i)) w:=by
 match a,b with
 | [e,f,g,h,j,k,l,m],_=>
  have c:i=0\/i=1\/i=2\/i=3\/i=4\/i=5\/i=6\/i=7:=af;rcases c with rfl|rfl|rfl|rfl|rfl|rfl|rfl|rfl
  all_goals(show _=_;kernel_rfl)
section
variable {d:Tmp}{x y:Operand}{ty:TypeId}{pos:String}{after:Array Edge}{gd:Option (Nat×Bool)}{a:Go.Act}{w:World}{K:Go.Act->World->Prop}{Q:Exit->Go.Act->World->Prop}
theorem WV(b:jQ w (a.eval x) 8):Oper.wp prog ⟨some d,.load 192 x,ty,pos,after,gd⟩ a w K Q=K (a.put (some d) (jx w (a.eval x) 8)) w:=iS underlying192 rfl al b
theorem Xa(b:jQ w (a.eval x) 14):Oper.wp prog ⟨some d,.load 143 x,ty,pos,after,gd⟩ a w K Q=K (a.put (some d) (jx w (a.eval x) 14)) w:=iS underlying143 rfl al b
end
attribute [local go_sem ↓] WV Xa
attribute [local go_sem] cr cD Vx P8
theorem zf(b:Bool)(v:cH)(l:eL)(w:ay)(h:ee w v l)(hl:l.length<=1000000)(o:(gI l).length<=10000000)(hw:dt w)(hf:dJ w):
 Calls prog 60 #[.agg (ai .i64 (dw b)),v] w λe w'=>e= .returned (.string (strOfNums (mj b (gI l))))/\Below w.heap.size w w':=by
 have HV:=aa h;have HW:=aa hw;have av:=aa hf;have bk:=aa o;have ch:=aa hl;obtain⟨n,hn⟩:=aP ((gI l).length);have HN:=aa hn;obtain⟨W1,aE⟩:=aP (jp b);have D:=aa aE;have bl:W1=32\/W1=64:=by rw[aE];exact FB b
 have p:=aa bl;obtain⟨ci,U⟩:=aP (strOfNums (mj b (gI l)));rw[<-U];have bm:=aa U;clear h hw hf o hl hn aE U bl
 go_enter func60,ntmps60
 go_upto_region 2 with(fail)
 refine aU (λW=>Below w.heap.size w W/\Whole W w.heap.size 143 (ai .i64 (dw b))/\Whole W (w.heap.size+1) 192 (ai .u64 (List.replicate 8 0))) ⟨by go_grown,(Whole.new rfl rfl).alloc _,Whole.new bj rfl⟩ ?_;intro W0 ⟨kB,kK,kH⟩;have aF:=aa kB;have bn:=aa kK;have ck:=aa kH;have cl:=aa (av.o.below (kB.mono (ak _)));have V:=aa (af:w.heap.size≠w.heap.size+1);clear kB kK kH
 go_wp2_with fail
 go_loopw [18] (λi wr=> ∃k:Nat,k<=8/\i= .int .i64 (k:Int)/\eU W0 wr (w.heap.size+1) 192 .u64 (eH (λi=>mQ b (iY.getD i 0)) (λ_=>0) 8 k)) (λi _=>8 -(intOf i).toNat)
 case atStart=>exact⟨0,af,rfl,by rw[BF];exact eU.start ck.o⟩
 case round=>
  obtain⟨k,hk,rfl,O⟩:=hrel
  by_cases d:k<8
  .have k8:(k:Int)<8:=af;have CF:=aa ((O.other (show Whole W0 w.heap.size 143 (ai .i64 (dw b))from bn.o) V.o));have bo:=(df (O.only.block 21 (aL av.o.lt aF.o.size) (bE (dp av.o.lt)))).trans (cl.o.at_ (i:=k) d);have cm:=aa bo;have bp:=aa (jV (f:=λi=>mQ b (iY.getD i 0)) (g:=λ_=>0) (m:=8) (k:=k) d);have HU:=aa O;have bq:=QG k;have cn:=aa (λW=>xi b (iY.getD k 0) bq W);have J:=aa d;have co:=aa (show 21≠w.heap.size+1 by have:=av.o.lt;omega);clear O hk d bo bq;generalize hx:iY.getD k 0=x at*;generalize mQ b x=y at*;clear hx
   go_wp2_with fail
   refine dQ 7 (St wr (w.heap.size+1) k [.int .u64 (y:Int)]) false al al (St.start _ _ _ _) ?_;refine qQ (.int .i64 (k:Int)) ?_;refine bS (λK hK=> ?_);refine dK al 143 (.tmp 2) rfl (w.heap.size) 0 rfl (ai .i64 (dw b)) _ ((At.j CF.o)) CF.o.inside V.o underlying143 rfl (qT b) ?_;go_simp;refine hK _ ?_;clear hK K;refine qQ (.int .i64 (k:Int)) ?_;refine qQ (.pointer (some ⟨21,k,none⟩)) ?_;refine rD (.int .u64 (x:Int)) (λs W X=>aD ?_) ?_
   .have c:=X.cell_far cm.o co.o;go_simp
   refine rD (.int .u64 (y:Int)) (λs W X=> ?_) ?_
   .refine fR (f:=89) (args:=(#[.agg (ai .i64 (dw b)),.int .u64 (x:Int)])) fN X ?_;exact cn.o W
   refine qQ (.pointer (some ⟨w.heap.size+1,k,none⟩)) ?_;refine ft ?_;refine yk (.int .u64 (y:Int)) al rfl (λW X=>by have o:=HU.o.et.below X HU.o.et.inside;have c0:=o.int k (by rw[du];have:=J.o;omega);have f0:=o.free k;go_simp) ?_;intro W9 X;have o:=X.Qa HU.o.et;have HS:=aa (eU.mk (aZ HU.o.only X.grown) o:eU W0 W9 (w.heap.size+1) 192 .u64 _);clear X o
   go_wp2_with fail
   go_roundw
   case rel=>exact⟨k+1,by have:=J.o;omega,by go_num,by rw[<-bp.o];exact HS.o⟩
   case measure=>have:=J.o;simp[intOf];omega
  .obtain rfl:k=8:=af;rw[J2]at O;have HU:=aa O;have A:=O.other (show Whole W0 w.heap.size 143 (ai .i64 (dw b))from bn.o) V.o;have J:=aa A;obtain⟨c0,c1⟩:=vE A;rw[<-D.o]at c0;have HB:=aa (O.below aF.o af aF.o.size);clear O A hk d c1;obtain⟨S,hS⟩:=aP (2*W1);obtain⟨F,hF⟩:=aP (W1/4);have a1:IntKind.i64.wrap ((W1:Int)*2)=S:=by rw[fu];have:=p.o;omega
   have a2:(W1:Int)/4=F:=af;have a0:(0:Int)<=W1:=af;have HS:=aa hS;have HF:=aa hF;clear hS hF;obtain⟨r,hr⟩:=aP ((n+1+F) %S);obtain⟨q,hq⟩:=aP ((S -r) %S);obtain⟨P,hP⟩:=aP (MQ b n);have E:r<S:=by rw[hr];exact fF _ (by rw[HS.o];have:=p.o;omega)
   have cp:q<S:=by rw[hq];exact fF _ af
   have cq:P=q+F -8:=by
    rw[hP,hq,hr,HS.o,HF.o,D.o]
    rfl
   have e1:((n:Int)+1+F) %S=r:=by rw[hr];push_cast;rfl
   have e2:((S:Int) -r) %S=q:=by rw[hq,<-Int.natCast_sub (fI E)];push_cast;rfl
   have aG:S<=128:=by rw[HS.o];have:=p.o;omega
   have cr:8<=F:=by rw[HF.o];have:=p.o;omega
   have br:F<=16:=by rw[HF.o];have:=p.o;omega
   have e3:(q:Int)+F -8=P:=af;have bs:P<=256:=af;have n7:n<=10000000:=by rw[HN.o];exact bk.o
   have aK:=aa bs;have HP:=aa hP;clear hr hq hP cq;have p1:(n:Int)<=10000000:=af;have p2:(F:Int)<=16:=af;have p3:(S:Int)<=128:=af;have p4:(q:Int)<S:=af;have p5:(r:Int)<S:=af;have p6:(0:Int)<S:=af;clear E cp aG cr br bs n7
   go_wp2_with fail
   go_quiet (fail)
   go_wp2_with fail
   refine(GY v l _ (HV.o.below (bA HB.o nq) (ak _)) ch.o (ap bk.o an)).mono ?_;rintro e W2 ⟨⟨s0,rfl,aR⟩,B⟩;have bt:(s0.size:Int)=n:=by rw[HN.o,<-aR,aj]
   have bw:=aa aR;have aS:=aa (HU.o.et.below ((bA (aw _ _) nq).trans (B.mono (by exact ak _))) HU.o.et.inside);have aV:=aa (HB.o.trans ((bA (aw _ _) nq).trans (B.mono (by exact HB.o.size))));have aX:=aa (J.o.below ((bA (aw _ _) nq).trans (B.mono (by exact ak _))) J.o.inside);clear aR B
   go_wp2_with fail
   refine(strings_Repeat ⟨#[0]⟩ P W2 (dp aK.o) (by have:=aK.o;show 1*P<=_;omega)).mono ?_;obtain⟨zs,aY⟩:=aP ((⟨(Lib.repeatL (ByteArray.mk #[0]).data.toList P).toArray⟩:ByteArray));have a3:bI zs=List.replicate P 0:=by rw[aY,Iz]
   have ct:zs.size<=256:=by rw[<-aj,a3,eh];exact aK.o
   rw[<-aY];have bx:=aa a3;clear aY a3;rintro e W3 ⟨rfl,ax⟩;have a4:=aa (aS.o.below ax aS.o.inside);have bz:=aa (aX.o.below ax aX.o.inside);have a5:=aa (aV.o.trans (ax.mono aV.o.size));clear ax;obtain⟨s1,az⟩:=aP (s0++((⟨#[128]⟩:ByteArray)++zs))
   have bB:s1.size<=20000000:=by
    rw[az,<-aj,mI,mI,am,am,aj,aj,aj];have:(ByteArray.mk #[128]).size=1:=rfl;omega
   have cu:=aa (by rw[az,mI,mI,bw.o,bx.o,bf];rfl:bI s1=gI l++ [128]++List.replicate P 0)
   have cv:(s0.size:Int)+((⟨#[128]⟩:ByteArray)++zs).size<=9223372036854775807:=by
    rw[<-aj ((⟨#[128]⟩:ByteArray)++zs),mI,am,aj,aj];have:(ByteArray.mk #[128]).size=1:=rfl;omega
   go_upto_region 13 with(fail)
   rw[<-az];clear az cv bt ct bx bw;refine aU (λW=>Below w.heap.size w W/\Whole W w.heap.size 143 (ai .i64 (dw b))/\Whole W (w.heap.size+1) 192 (ai .u64 (qD (iY.map (mQ b))))/\Lib.IsBuilder 154 5 W3.heap.size W3.heap.size [] W) ⟨a5.o.alloc a5.o.size _,bz.o.alloc _,a4.o.alloc _,Lib.fresh_isBuilder _ _ _⟩ ?_;intro W4 ⟨kB,kK,kH,kL⟩;have a6:=aa (show w.heap.size+1<W3.heap.size from a4.o.inside)
   have bC:=aa (show W3.heap.size<=W4.heap.size by
    rcases kL with h|h
    .obtain⟨_,v,Q,_⟩:=h;exact fI (Whole.inside (cs:= #[_,v]) Q)
    .obtain⟨_,v,Q,_⟩:=h;exact fI (Whole.inside (cs:= #[_,v]) Q))
   clear a4 bz a5 aS aX aV;generalize W3.heap.size=gt at*;have cw:=aa kB;have cx:=aa kK;have cy:=aa kH;have cz:=aa kL;clear kB kK kH kL;obtain⟨R,bF⟩:=aP (n*8);have da:(n:Int)*8=R:=af;have c5:R<=80000000:=af;have cA:=aa bF;clear bF
   go_wp2_with fail
   go_loopw [13] (λi W=> ∃k:Nat,k<=8/\i= .int .i64 (56 -8*(k:Int))/\Lib.IsBuilder 154 5 gt gt ((tf R 8 k).map (Value.int .u8)) W/\Below gt W4 W) (λi _=>(intOf i+8).toNat)
   case atStart=>exact⟨0,af,rfl,cz.o,aw _ _⟩
   case round=>
    obtain⟨k,hk,rfl,L,hB⟩:=hrel;have N:=aa L;have t:=aa hB;clear L hB
    by_cases d:k<8
    .obtain⟨i,hi⟩:∃i:Nat,(56:Int) -8*k=i:=⟨56 -8*k,af⟩;have bG:i<=56:=af
     have hv:IntKind.u8.wrap ((R:Int)/2^i)=((R/256^(8 -1 -k) %256:Nat):Int):=by
      obtain rfl:i=8*(8 -1 -k):=af;rw[jf,Int.pow_mul,show(2:Int)^8=256 from rfl]
      push_cast
      rfl
     have HC:=aa (Dd R 8 k);generalize((R/256^(8 -1 -k) %256:Nat):Int)=c at hv HC;have HL:=aa (by rw[aM,oQ];omega:((tf R 8 k).map (Value.int .u8)).length+1<=140737488355328);have C:=aa d;rw[hi];clear hk d
     go_wp2_with fail
     refine(tc gt gt _ c _ N.o HL.o (ap bC.o t.o.size)).mono ?_;rintro e W5 ⟨rfl,bM,G⟩;have bO:=aa bM;have bU:=aa (t.o.trans G);clear bM G
     go_wp2_with fail
     go_roundw
     case rel=>exact⟨k+1,by have:=C.o;omega,by go_num,.inr (by rw[HC.o,cN];exact bO.o),bU.o⟩
     case measure=>simp[intOf];omega
    .obtain rfl:k=8:=af;have Y:=aa (Gb R 8 8);have L:=N.o;rw[pD Y.o]at L;have u:=aa L;clear L N hk d
     go_wp2_with fail
     refine(Builder_String_any gt gt _ _ u.o (ap bC.o t.o.size)).mono ?_;rintro e W5 ⟨rfl,G⟩;obtain⟨tl,a7⟩:=aP (strOfNums (tf R 8 8));have a8:bI tl=tf R 8 8:=by rw[a7];exact cJ Y.o
     have cB:tl.size=8:=by rw[<-aj,a8,oQ]
     have cC:(ByteArray.mk ((tf R 8 8).map λn=>UInt8.ofNat n.toNat).toArray)=tl:=a7.symm;obtain⟨s2,a9⟩:=aP (s1++tl)
     have H:bI s2=gI l++pk b n:=by
      rw[a9,mI,cu.o,a8,HP.o,cA.o];unfold pk;simp only[List.append_assoc]
     have Z:s2.size=n+(pk b n).length:=by rw[<-aj,H,am,HN.o]
     have bW:(s1.size:Int)+tl.size<=9223372036854775807:=af;have c6:=aa H;have c7:=aa Z;have ba:=aa (cw.o.trans ((t.o.trans G).mono (dp a6.o)));have bX:=aa (cx.o.below (t.o.trans G) (dp a6.o));have cD:=aa (cy.o.below (t.o.trans G) a6.o);have cE:=aa (HW.o.below (ba.o.mono (ak _)))
     have bY:=aa (show mj b (gI l)=zy b (vH b ((n+(pk b n).length)/S) (iY.map (mQ b)) (bI s2)) by
      rw[H,HS.o,D.o,HN.o];rfl)
     have cF:=aa (show∃m,s2.size=m*S/\(n+(pk b n).length)/S=m by
      have Q:=KK b n;rw[<-D.o,<-HS.o]at Q;have db:0<S:=af;refine⟨(n+(pk b n).length)/S,?_,rfl⟩;rw[Z];exact(Nat.div_mul_cancel (Nat.dvd_of_mod_eq_zero Q)).symm)
     clear G u Y t H Z a8 a7
     go_upto_region 18 with(fail)
     rw[<-a9];clear cC a9 bW cB bB;obtain⟨bb,I⟩:=aP (vH b ((n+(pk b n).length)/S) (iY.map (mQ b)) (bI s2));have dc:=aa (by rw[I];exact wN _ _ _ (tF b):mG b bb);rw[<-I]at bY;have bZ:=aa I;clear I;have b0:=aa (by rw[HS.o,D.o]:S=2*jp b)
     go_loopw [9] (λi W=> ∃(m:Nat) (o:List Nat) (a:ByteArray),i= .string a/\a.size=m*S/\mG b o/\vH b m o (bI a)=bb/\eU W5 W (w.heap.size+1) 192 .u64 (qD o)) (λi _=>match i with| .string s=>s.size|_=>0)
     case atStart=>
      obtain⟨m,Q,h2⟩:=cF.o;exact⟨m,iY.map (mQ b),s2,rfl,Q,tF b,by rw[bZ.o,h2],eU.start cD.o⟩
     case round=>
      obtain⟨m,o,a,rfl,E,he,aC,O⟩:=hrel;have HE:=aa he;have ab:=aa aC;have z:=aa O;clear he aC O;cases m with
      |zero=>
       have dd:a.size=0:=by rw[E];exact Nat.zero_mul _
       obtain rfl:o=bb:=ab.o;have bc:=aa (z.o.below ba.o af ba.o.size);have b1:=aa (z.o.other bX.o V.o);clear ab
       go_upto_region 22 with(fail)
       refine aU (λW=>Below w.heap.size w W/\Whole W w.heap.size 143 (ai .i64 (dw b))/\Whole W (w.heap.size+1) 192 (ai .u64 (qD o))/\Lib.IsBuilder 154 5 wr.heap.size wr.heap.size [] W) ⟨bc.o.alloc bc.o.size _,b1.o.alloc _,z.o.et.alloc _,Lib.fresh_isBuilder _ _ _⟩ ?_;intro W6 ⟨kB,kK,kH,kL⟩;have bd:=aa (show w.heap.size+1<wr.heap.size from z.o.et.inside)
       have b2:=aa (show wr.heap.size<=W6.heap.size by
        rcases kL with h|h
        .obtain⟨_,v,Q,_⟩:=h;exact fI (Whole.inside (cs:= #[_,v]) Q)
        .obtain⟨_,v,Q,_⟩:=h;exact fI (Whole.inside (cs:= #[_,v]) Q))
       clear bc b1 z;generalize wr.heap.size=go at*;have cG:=aa kB;have cK:=aa kK;have cL:=aa kL;have l1:=(At.j kH).R (m:=8) (by rw[ag,ky,HE.o.length]);have r1:=(At.j kH).row (m:=8) (by rw[ag,ky,HE.o.length]);clear kB kK kH kL;obtain⟨M,hM⟩:=aP (W1/8);have cM:M<=8:=by have:=p.o;omega
       have cO:=aa (show(W1:Int)=8*M by have:=p.o;omega);have b3:=aa (by rw[<-D.o,hM]:jp b/8=M);clear hM
       go_wp2_with fail
       go_loopw [83] (λi W=> ∃k:Nat,k<=8/\i= .int .i64 (k:Int)/\Lib.IsBuilder 154 5 go go ((zy b (o.take k)).map (Value.int .u8)) W/\Below go W6 W) (λi _=>8 -(intOf i).toNat)
       case atStart=>exact⟨0,af,rfl,cL.o,aw _ _⟩
       case round=>
        obtain⟨k,hk,rfl,L,hB⟩:=hrel;have N:=aa L;have t:=aa hB;clear l1 r1
        by_cases d:k<8
        .have k8:(k:Int)<8:=af;have A:=cK.o.below hB (dp bd.o);obtain⟨c0,_⟩:=vE A;rw[<-D.o]at c0;have b4:=aa (Oo b o k (by rw[HE.o.length];exact d));have cP:=λW=>Lk (qD o) (by rw[ky,HE.o.length]) k d W;rw[Fb o k (by rw[HE.o.length];exact d)]at cP;have b5:=HE.o.lt k;have c8:o.getD k 0<18446744073709551616:=aL b5 (Tp b);rw[b3.o]at b4;generalize o.getD k 0=x at*;have C:=aa d;clear L hB hk d A b5;have de:(W1:Int) -8=8*((M:Int) -1):=by have:=cO.o;omega
         go_wp2_with fail
         go_loopw [17] (λi W=> ∃j:Nat,j<=M/\i= .int .i64 (8*((M:Int) -1) -8*j)/\Lib.IsBuilder 154 5 go go ((zy b (o.take k)++tf x M j).map (Value.int .u8)) W/\Below go W6 W) (λi _=>(intOf i+8).toNat)
         case atStart=>exact⟨0,af,by go_num,by simpa[tf]using N.o,t.o⟩
         case round=>
          obtain⟨j,hj,rfl,L,hB⟩:=hrel;have u:=aa L;have ad:=aa hB;clear L hB
          by_cases be:j<M
          .obtain⟨i,hi⟩:∃i:Nat,8*((M:Int) -1) -8*j=i:=⟨8*(M -1 -j),af⟩;have bG:i<=56:=af
           have hv:IntKind.u8.wrap ((x:Int)/2^i)=((x/256^(M -1 -j) %256:Nat):Int):=by
            obtain rfl:i=8*(M -1 -j):=af;rw[jf,Int.pow_mul,show(2:Int)^8=256 from rfl]
            push_cast
            rfl
           have HC:=aa (Dd x M j);generalize((x/256^(M -1 -j) %256:Nat):Int)=c at hv HC
           have HL:=aa (show((zy b (o.take k)++tf x M j).map (Value.int .u8)).length+1<=140737488355328 by
            rw[aM,am,oQ,y9,b3.o,aO];have:=fT (Nat.min_le_left k o.length) (ak M);have h2:k*M<=8*8:=fT (dp C.o) cM;omega)
           have cS:=aa be;rw[hi];clear hj be
           go_wp2_with fail
           refine(tc go go _ c _ u.o HL.o (ap b2.o ad.o.size)).mono ?_;rintro e W7 ⟨rfl,b6,ao⟩;have b7:=aa b6;have b8:=aa (ad.o.trans ao);clear b6 ao
           go_wp2_with fail
           go_roundw
           case rel=>
            exact⟨j+1,by have:=cS.o;omega,by go_num,.inr (by rw[HC.o,<-bf,cN];exact b7.o),b8.o⟩
           case measure=>simp[intOf];omega
          .obtain rfl:j=M:=af;rw[<-b4.o]at u;have bg:=aa u.o;clear u hj be
           go_wp2_with fail
           go_roundw
           case rel=>exact⟨k+1,by have:=C.o;omega,by go_num,bg.o,ad.o⟩
           case measure=>have:=C.o;simp[intOf];omega
        .obtain rfl:k=8:=af;have B:=N.o;rw[bL (by rw[HE.o.length];exact ak _),pD Ih]at B;have bg:=aa B;have cT:=aa (cG.o.trans (t.o.mono (dp bd.o)));clear L hB hk d B
         go_wp2_with fail
         refine(Builder_String_any go go _ _ bg.o (ap b2.o t.o.size)).mono ?_;rintro e W7 ⟨rfl,ao⟩;have cU:=aa (cT.o.trans (ao.mono (dp bd.o)));have cV:=aa (by rw[bm.o,bY.o]:strOfNums (zy b o)=ci);clear ao
         go_wp2_with fail
         go_ret
         exact⟨aA (λs=>Ending.returned (.string s)) cV.o,cU.o⟩
      |succ m=>
       have b9:S<=a.size:=by rw[E,Nat.succ_mul];omega
       have c9:(S:Int)<=a.size:=af;have A:=z.o.other bX.o V.o;have ca:dt wr:=cE.o.only z.o.only (bE (dp HW.o.lt));have cX:=aa ca;have cb:(a.extract 0 S).size=2*jp b:=by rw[<-aj,og,nT,aO,aj,<-b0.o];omega
       have cY:=aa (λW hg hw=>II b o HE.o (a.extract 0 S) cb (w.heap.size+1) W hg hw);have cc:=aa A;have cZ:=aa b9;have c2:=aa E;have s0:(0:Int)<=S:=af;clear A ca b9 E cb
       go_wp2_with fail
       refine mp 4 (λW=>Below wr.heap.size wr W) al al (bA (aw _ _) 1) ?_;refine e9 (λK hK=> ?_);refine jo al 143 (.tmp 2) rfl (w.heap.size) 0 rfl (ai .i64 (dw b)) _ (λW X=>(At.below (At.j cc.o) X cc.o.inside)) underlying143 rfl (qT b) ?_;go_simp;refine hK _ ?_;clear hK K;refine mD (.string a) ?_;refine mD (.int .i64 (S:Int)) ?_;refine mD (.string (a.extract 0 S)) ?_;refine q5 ?_;intro W6 aB;have bh:=z.o.et.below aB z.o.et.inside;have c3:=aa (eU.mk (aZ z.o.only (bR aB _)) bh:eU W5 W6 (w.heap.size+1) 192 .u64 _);have cd:=aa (cY.o W6 bh (cX.o.below aB));clear bh aB
       go_wp2_with (go_at_call 94;refine cd.o.mono ?_)
       rintro e W7 ⟨rfl,cf,cg⟩;have c4:=aa (eU.mk (aZ c3.o.only cg) cf:eU W5 W7 (w.heap.size+1) 192 .u64 _);clear cf cg
       go_wp2_with fail
       go_roundw
       case rel=>
        refine⟨m,Ru b o (bI (a.extract 0 S)),a.extract S a.size,rfl,?_,Bc HE.o _,?_,c4.o⟩
        .rw[<-aj,og,bK,aO,aj,c2.o,Nat.succ_mul];omega
        .rw[<-ab.o,vH,og,og,nT,<-b0.o,bL (i:=a.size) (l:=bI a) (by rw[aj];exact ak _)]
       case measure=>
        show(a.extract S a.size).size<a.size;rw[<-aj,og,bK,aO,aj];have:=cZ.o;omega
end Go.Proofs.P
namespace Go.Spk
theorem sO{P}{ops}{rest}{o}{a}{w}{Q}(cs:gJ)(c:o.guard=none)(t:fg)(b:Array (Nat×Operand))(d:o.op= .build t b)
 (hf:P.built t (b.map λ(i,x)=>(i,a.eval x)).toList=some cs) (h:wpList P ops Q rest (a.put o.dst (.agg cs)) w):wpList P ops Q (o::rest) a w:=
 wpList_build c t b d (by rw[hf];rfl) (by rw[hf];exact h)
theorem At.pi{w}{g m}{t}{xs zs}(h:rY w g t m (xs++zs)):At w g 0 (ai .u8 xs):=by
 constructor
 .intro j v b;rw[aW]
  have a:j<xs.length:=by
   have:=(aI.1 b).1;simpa[ai]using this
  have c:=h.cell j (by rw[am];omega);rw[jk _ _ _ a]at c;rw[c,<-iP .u8 xs j a];simpa using b
 .intro j a;rw[ag]at a;rw[aW];exact⟨by rw[h.cell j (by rw[am];omega)];rfl,h.frozen j (by rw[am];omega)⟩
end Go.Spk
namespace Go.Proofs.P
section
variable {d:Tmp}{x y:Operand}{ty:TypeId}{pos:String}{after:Array Edge}{gd:Option (Nat×Bool)}{a:Go.Act}{w:World}{K:Go.Act->World->Prop}{Q:Exit->Go.Act->World->Prop}
theorem Ag(b:jQ w (a.eval x) 64):Oper.wp prog ⟨some d,.load 97 x,ty,pos,after,gd⟩ a w K Q=K (a.put (some d) (jx w (a.eval x) 64)) w:=iS underlying97 rfl al b
theorem Ah(b:jQ w (a.eval x) 64)(c:mZ 64 (a.eval y)):Oper.wp prog ⟨none,.store 97 x y,ty,pos,after,gd⟩ a w K Q=K (a.put none undef) (w.setCells (lY (a.eval x)) (lZ (a.eval x)) (a.eval y).cells.toList):=lj al b c
end
theorem yc:(prog.info? 97).map (·.size)=some 64:=al
attribute [local go_sem ↓] iw iy Ag Ah
attribute [local go_sem] cr cD
theorem Ct(w:ay):Calls prog 168 #[] w λe j=>e= .returned (.agg (ai .i64 (dw false)))/\Below w.heap.size w j:=by
 go_enter func168,ntmps168
 go_upto_region 1 with(fail)
 refine aU (λW=>Below w.heap.size w W/\Whole W w.heap.size 143 (ai .i64 (List.replicate 14 0))) ⟨by go_grown,Whole.new bj rfl⟩ ?_;intro c ⟨h,i⟩;have a:=aa h;have b:=aa i;clear h i;have s1:(prog.info? 143).map (·.size)=some (ai .i64 (dw false)).size:=qT false
 go_wp2_with (refine cQ rfl 143 (.tmp 0) (.tmp 5) rfl w.heap.size (ai .i64 (dw false)) rfl rfl 143 _ b.o s1 rfl (fL _ _) ?_)
 have d:=aa (show Whole (c.setRow w.heap.size (ai .i64 (dw false))) w.heap.size 143 (ai .i64 (dw false))from Whole.row b.o);have f:=aa (show Below w.heap.size w (c.setRow w.heap.size (ai .i64 (dw false)))from a.o.grown (bW _ _ _) a.o.size (λk g=>by injection g with g;subst g;exact ak _));generalize c.setRow w.heap.size _=l at*
 go_wp2_with fail
 exact cI (im (fn:=f168) (p:=0) rfl _ _ w.heap.size 143 (ai .i64 (dw false)) (0,0) _ rfl d.o underlying143 rfl (qT false)) rfl ⟨rfl,f.o⟩
theorem Cu(w:ay):Calls prog 59 #[] w λe j=>e= .returned (.agg (ai .i64 (dw true)))/\Below w.heap.size w j:=by
 go_enter func59,ntmps59
 go_upto_region 1 with(fail)
 refine aU (λW=>Below w.heap.size w W/\Whole W w.heap.size 143 (ai .i64 (List.replicate 14 0))) ⟨by go_grown,Whole.new bj rfl⟩ ?_;intro c ⟨h,i⟩;have a:=aa h;have b:=aa i;clear h i;have s1:(prog.info? 143).map (·.size)=some (ai .i64 (dw true)).size:=qT true
 go_wp2_with (refine cQ rfl 143 (.tmp 0) (.tmp 5) rfl w.heap.size (ai .i64 (dw true)) rfl rfl 143 _ b.o s1 rfl (fL _ _) ?_)
 have d:=aa (show Whole (c.setRow w.heap.size (ai .i64 (dw true))) w.heap.size 143 (ai .i64 (dw true))from Whole.row b.o);have f:=aa (show Below w.heap.size w (c.setRow w.heap.size (ai .i64 (dw true)))from a.o.grown (bW _ _ _) a.o.size (λk g=>by injection g with g;subst g;exact ak _));generalize c.setRow w.heap.size _=l at*
 go_wp2_with fail
 exact cI (im (fn:=f59) (p:=0) rfl _ _ w.heap.size 143 (ai .i64 (dw true)) (0,0) _ rfl d.o underlying143 rfl (qT true)) rfl ⟨rfl,f.o⟩
theorem pL(v:cH)(l:eL)(w:ay)(h:ee w v l)(hl:l.length<=1000000)(C:(gI l).length<=10000000)(t:dt w)(hf:dJ w):
 Calls prog 127 #[v] w λe G=>e= .returned (.agg (ai .u8 (mj false (gI l))))/\Below w.heap.size w G:=by
 have n:=aa (λW (h:ee W v l) (t:dt W) (hf:dJ W)=>zf false v l W h hl C t hf);have H:=aa h;have I:=aa t;have J:=aa hf;obtain⟨R,u⟩:=aP (mj false (gI l));have b:=aa (by rw[u];exact eG _ _:R.length=32);have x:=aa (by rw[u];exact kY _ _:∀z∈R,0<=z/\z<=255);rw[<-u]at n⊢;clear h hl C t hf u
 go_enter func127,ntmps127
 go_upto_region 1 with(fail)
 refine aU (λW=>Below w.heap.size w W/\Whole W w.heap.size 22 (ai .u8 (List.replicate 32 0))) ⟨by go_grown,Whole.new bj rfl⟩ ?_;intro K ⟨D,E⟩;have o:=aa D;have p:=aa E;clear D E
 go_wp2_with fail
 refine(Ct K).mono ?_;rintro e L ⟨rfl,f⟩;have c:=aa (o.o.trans (f.mono o.o.size));have q:=aa (p.o.below f p.o.inside);clear f
 go_wp2_with fail
 refine(n.o L (H.o.below c.o (ak _)) (I.o.below c.o) (J.o.below c.o)).mono ?_;rintro e a ⟨rfl,g⟩;have r:=aa (c.o.trans (g.mono c.o.size));have y:=aa (q.o.below g q.o.inside);clear g;obtain⟨S,A⟩:=aP (strOfNums R);have i:bI S=R:=by rw[A];exact cJ x.o
 have M:S.size=32:=by rw[<-aj,i,b.o]
 have N:=gD (P:=prog) a 9 99 5 S underlying9 underlying99 underlying5;have d:=rY.made (w:=a) rfl S (grownCap a 32 0 5) 5;rw[i]at d;have j:=(y.o.alloc (.cells (bytesRow S (grownCap a 32 0 5)) 5 ((bytesRow S (grownCap a 32 0 5)).size,(bytesRow S (grownCap a 32 0 5)).size+1))).drew;have s:=aa (bA (r.o.alloc r.o.size (.cells (bytesRow S (grownCap a 32 0 5)) 5 ((bytesRow S (grownCap a 32 0 5)).size,(bytesRow S (grownCap a 32 0 5)).size+1))) 1);have O:=run_arrayAt (P:=prog) (w:=(a.alloc (.cells (bytesRow S (grownCap a 32 0 5)) 5 ((bytesRow S (grownCap a 32 0 5)).size,(bytesRow S (grownCap a 32 0 5)).size+1))).drew) 22 5 32 (some ⟨a.heap.size,0,none⟩) 32 (grownCap a 32 0 5) underlying22 an;have Q:=(At.pi d).R (m:=32) (by rw[ag,b.o]);have U:=(At.pi d).row (m:=32) (by rw[ag,b.o]);have V:=(At.j j).R (m:=32) (by rw[ag];rfl);have X:=bY .u8 R 32 b.o;have B:=aa j;rw[<-A];clear i d j A
 go_wp2_with fail
 refine ej rfl underlying22 rfl gE w.heap.size (ai .u8 R) _ rfl rfl B.o (by rw[ag];rfl) (by rw[ag,b.o]) ⟨rfl,?_⟩;exact s.o.grown (aG _ _ _ _) s.o.size (λk F=>by injection F with F;omega)
theorem xm(v:cH)(l:eL)(w:ay)(h:ee w v l)(hl:l.length<=1000000)(C:(gI l).length<=10000000)(t:dt w)(hf:dJ w):
 Calls prog 34 #[v] w λe G=>e= .returned (.agg (ai .u8 (mj true (gI l))))/\Below w.heap.size w G:=by
 have n:=aa (λW (h:ee W v l) (t:dt W) (hf:dJ W)=>zf true v l W h hl C t hf);have H:=aa h;have I:=aa t;have J:=aa hf;obtain⟨R,u⟩:=aP (mj true (gI l));have b:=aa (by rw[u];exact eG _ _:R.length=64);have x:=aa (by rw[u];exact kY _ _:∀z∈R,0<=z/\z<=255);rw[<-u]at n⊢;clear h hl C t hf u
 go_enter func34,ntmps34
 go_upto_region 1 with(fail)
 refine aU (λW=>Below w.heap.size w W/\Whole W w.heap.size 97 (ai .u8 (List.replicate 64 0))) ⟨by go_grown,Whole.new bj rfl⟩ ?_;intro K ⟨D,E⟩;have o:=aa D;have p:=aa E;clear D E
 go_wp2_with fail
 refine(Cu K).mono ?_;rintro e L ⟨rfl,f⟩;have c:=aa (o.o.trans (f.mono o.o.size));have q:=aa (p.o.below f p.o.inside);clear f
 go_wp2_with fail
 refine(n.o L (H.o.below c.o (ak _)) (I.o.below c.o) (J.o.below c.o)).mono ?_;rintro e a ⟨rfl,g⟩;have r:=aa (c.o.trans (g.mono c.o.size));have y:=aa (q.o.below g q.o.inside);clear g;obtain⟨S,A⟩:=aP (strOfNums R);have i:bI S=R:=by rw[A];exact cJ x.o
 have M:S.size=64:=by rw[<-aj,i,b.o]
 have N:=gD (P:=prog) a 9 99 5 S underlying9 underlying99 underlying5;have d:=rY.made (w:=a) rfl S (grownCap a 64 0 5) 5;rw[i]at d;have j:=(y.o.alloc (.cells (bytesRow S (grownCap a 64 0 5)) 5 ((bytesRow S (grownCap a 64 0 5)).size,(bytesRow S (grownCap a 64 0 5)).size+1))).drew;have s:=aa (bA (r.o.alloc r.o.size (.cells (bytesRow S (grownCap a 64 0 5)) 5 ((bytesRow S (grownCap a 64 0 5)).size,(bytesRow S (grownCap a 64 0 5)).size+1))) 1);have O:=run_arrayAt (P:=prog) (w:=(a.alloc (.cells (bytesRow S (grownCap a 64 0 5)) 5 ((bytesRow S (grownCap a 64 0 5)).size,(bytesRow S (grownCap a 64 0 5)).size+1))).drew) 97 5 64 (some ⟨a.heap.size,0,none⟩) 64 (grownCap a 64 0 5) underlying97 an;have Q:=(At.pi d).R (m:=64) (by rw[ag,b.o]);have U:=(At.pi d).row (m:=64) (by rw[ag,b.o]);have V:=(At.j j).R (m:=64) (by rw[ag];rfl);have X:=bY .u8 R 64 b.o;have B:=aa j;rw[<-A];clear i d j A
 go_wp2_with fail
 refine ej rfl underlying97 rfl yc w.heap.size (ai .u8 R) _ rfl rfl B.o (by rw[ag];rfl) (by rw[ag,b.o]) ⟨rfl,?_⟩;exact s.o.grown (aG _ _ _ _) s.o.size (λk F=>by injection F with F;omega)
end Go.Proofs.P
namespace Go.Spk
def ua(b:List Int)(a:Nat):List Int:=(List.range 64).map λi=>(((b.getD i 0).toNat^^^a:Nat):Int)
def Dz(a:List Int)(l:List Int):List Int:=mj false (ua a 92++mj false (ua a 54++l))
theorem oX(a:aR)(b:Nat):(ua a b).length=64:=by simp[ua]
theorem Im{a}{b}(c:jr a)(d:b<256):∀z∈ua a b,0<=z/\z<=255:=by
 intro z e;obtain⟨i,_,rfl⟩:=fZ.1 e;have h:=c i;have f:(a.getD i 0).toNat<256:=by have:=h.2;unfold ix at this;omega
 have g:=o7 (n:=8) f d;omega
theorem Ot(a:aR)(b:Nat):eH (λi=>(a.getD i 0).toNat^^^b) (λi=>(a.getD i 0).toNat) 64 64=ua a b:=by
 unfold eH ua;apply nO;intro i c;rw[aJ (ek c)]
theorem KI{a}(e:jr a)(hl:a.length<=64)(b:Nat):eH (λi=>(a.getD i 0).toNat^^^b) (λi=>(a.getD i 0).toNat) 64 0=a++List.replicate (64 -a.length) 0:=by
 refine sv (by rw[du,am,eh];omega) λi d=> ?_;rw[du]at d;rw[mo d,aq (Nat.not_lt_zero _)];have h:=e i;unfold ix at h⊢
 by_cases c:i<a.length
 .simp only[List.getD,List.getElem?_append_left c];simp only[List.getD]at h;omega
 .simp only[List.getD,List.getElem?_append_right (Nat.le_of_not_lt c),List.getElem?_eq_none (Nat.le_of_not_lt c),List.getElem?_replicate]
  split<;>rfl
end Go.Spk
namespace Go.Proofs.P
theorem AQ(s:bB)(A:s.size<=64)(a:Nat)(N:a<256)(w:ay):
 Calls prog 128 #[.string s,.int .u8 a] w λe O=>e= .returned (.string (strOfNums (ua (bI s) a)))/\Below w.heap.size w O:=by
 obtain⟨R,B⟩:=aP (ua (bI s) a);have n:=aa (Ot (bI s) a);have o:=aa (by rw[B];exact oX _ _:R.length=64);rw[<-B]at n⊢;clear B;have C:=aa (KI (c8 s) (by rw[aj];exact A) a);have Q:=aa A;have D:=aa N;have S:¬(64:Int)<s.size:=af
 go_enter func128,ntmps128
 go_upto_region 5 with(fail)
 refine aU (λW=>Below w.heap.size w W/\Whole W w.heap.size 97 (ai .u8 (List.replicate 64 0))) ⟨by go_grown,Whole.new bj rfl⟩ ?_;intro p ⟨H,E⟩;have r:=aa H;have t:=Lib.run_copy_row_string (P:=prog) p 99 9 3 5 w.heap.size 0 64 64 s (ai .u8 (List.replicate 64 0)) 97 underlying99 al E A (by rw[ag,eh];omega)
 have j:((ai .u8 (List.replicate 64 0)).toList.take 0++Lib.byteCells s.data.toList++(ai .u8 (List.replicate 64 0)).toList.drop (0+s.size)).toArray=ai .u8 (eH (λi=>((bI s).getD i 0).toNat^^^a) (λi=>((bI s).getD i 0).toNat) 64 0):=by
  rw[C.o];unfold ai Lib.byteCells bI;simp only[List.take_zero,List.nil_append,Nat.zero_add,List.map_append,List.map_map,List.map_replicate,List.drop_replicate,List.length_map];congr 2
 obtain⟨I,l⟩:=aP (p.setRow w.heap.size (ai .u8 (eH (λi=>((bI s).getD i 0).toNat^^^a) (λi=>((bI s).getD i 0).toNat) 64 0)));have J:=t.trans (show _=Result.ok (goInt s.size) I by rw[l];exact aA (λc=>Result.ok (goInt s.size) (p.setRow w.heap.size c)) j);have F:=aa (by rw[l];exact⟨bW _ _ _,Whole.row E⟩:eU p I w.heap.size 97 .u8 (eH (λi=>((bI s).getD i 0).toNat^^^a) (λi=>((bI s).getD i 0).toNat) 64 0));clear H E t j l
 go_wp2_with fail
 go_loopw [19] (λi W=> ∃k:Nat,k<=64/\i= .int .i64 (k:Int)/\eU p W w.heap.size 97 .u8 (eH (λi=>((bI s).getD i 0).toNat^^^a) (λi=>((bI s).getD i 0).toNat) 64 k)) (λi _=>64 -(intOf i).toNat)
 case atStart=>exact⟨0,af,rfl,F.o⟩
 case round=>
  obtain⟨k,K,rfl,d⟩:=hrel;have L:=aa d
  by_cases b:k<64
  .have U:(k:Int)<64:=af;have c:=d.et.int k (by rw[du];exact b);rw[mo b,aq (pM _)]at c;have f:=d.et.free k;have u:=aa (jV (f:=λi=>((bI s).getD i 0).toNat^^^a) (g:=λi=>((bI s).getD i 0).toNat) (m:=64) (k:=k) b);have v:((bI s).getD k 0).toNat<256:=by have h:=c8 s k;unfold ix at h;omega
   generalize((bI s).getD k 0).toNat=x at*;have V:bits BinOp.xor IntKind.u8 (x:Int) (a:Int)=((x^^^a:Nat):Int):=u8_xor_nat _ _ v D.o;generalize x^^^a=y at*;have z:=aa b;clear d K b v
   go_wp2_with fail
   go_roundw
   case rel=>exact⟨k+1,by have:=z.o;omega,by go_num,by rw[<-u.o];exact L.o.set k _⟩
   case measure=>have:=z.o;simp[intOf];omega
  .obtain rfl:k=64:=af;rw[n.o]at d;have X:=aa d
   have M:=bv (P:=prog) wr 99 5 underlying99 underlying5 w.heap.size 0 64 64 R o.o (λq Y=>by
    rw[aW,d.et.at_,iP .u8 _ q (by rw[o.o];exact Y)];rfl) 9 underlying9
   have G:=aa (d.below r.o (ak _) r.o.size);clear d L K b
   go_wp2_with fail
   go_ret
   exact⟨rfl,G.o⟩
end Go.Proofs.P
namespace Go.Spk
theorem ee.j{w}{g}{T}{l}(h:Whole w g T (l.map Value.string).toArray):ee w (.slice (some ⟨g,0,none⟩) l.length l.length) l:=
 .inr ⟨g,0,l.length,rfl,ak _,h.inside,λj x a=>by
  rw[aW,h.at_];simp[a]⟩
theorem ee.pj{w}{B}{e}{v}{n}{l}(h:w.ownsRow B e 1 v n (l.map Value.string)):ee w v l:=by
 obtain⟨k,m⟩:=h;have c:l.length=n:=by simpa using k
 rcases m with⟨rfl,rfl⟩|⟨g,a,b,rfl,r,d,o,s,u,p⟩
 .exact .inl ⟨o5 c,none,0,rfl⟩
 .subst c;refine .inr ⟨g,0,a,rfl,o,Whole.inside (t:=e) (cs:=b) d,λj x f=> ?_⟩;rw[aW,Whole.at_ (t:=e) d];have q:=(aI.1 f).1;have i:(l.map Value.string)[j]?=some (.string x):=by rw[bi,f];rfl
  rw[<-p,js af]at i;simpa using i
theorem ee.news{w}{v}{l}(h:ee w v l)(hl:l≠ []):∃d m c,v= .slice (some d) m c/\m=l.length/\ ∀j u,(l.map Value.string)[j]?=some u->w.cell? (d.add j)=some u:=by
 rcases h with⟨rfl,_⟩|⟨g,o,c,rfl,f,i,e⟩
 .exact absurd rfl hl
 .refine⟨⟨g,o,none⟩,_,c,rfl,rfl,λj u a=> ?_⟩;rw[Addr.add_mid];rw[bi]at a;cases b:l[j]? with
  |none=>rw[b]at a;cases a
  |some x=>
   rw[b]at a;simp only[Option.map_some,Option.some.injEq]at a;subst a;exact e j x b
end Go.Spk
namespace Go.Proofs.P
theorem U1:(prog.info? 9).map (λi=>(i.zero,i.size,i.bytes))=some (some (.string ⟨#[]⟩),1,16):=al
theorem N9:∃i,prog.info? 9=some i/\i.zero=some (.string ⟨#[]⟩)/\i.size=1/\i.bytes=16:=by
 have h:=U1;cases a:prog.info? 9 with
 |none=>simp[a]at h
 |some i=>simp[a]at h;exact⟨i,rfl,h.1,h.2.1,h.2.2⟩
attribute [local go_sem ↓] iw iy
attribute [local go_sem] cr cD
theorem J5(key:bB)(o:key.size<=64)(v:cH)(l:eL)(w:ay)(h:ee w v l)(B:l≠ [])(hl:l.length<=100000)(hs:(gI l).length<=1000000)(hw:dt w)(hf:dJ w):
 Calls prog 96 #[.string key,v] w λe w'=>e= .returned (.agg (ai .u8 (Dz (bI key) (gI l))))/\Below w.heap.size w w':=by
 obtain⟨s,C⟩:=aP (strOfNums (ua (bI key) 54));obtain⟨r,D⟩:=aP (strOfNums (ua (bI key) 92));have aR:=aa (λW=>C▸AQ key o 54 an W);have aS:=aa (λW=>D▸AQ key o 92 an W);have b:bI s=ua (bI key) 54:=by rw[C];exact cJ (Im (c8 key) an)
 have i:bI r=ua (bI key) 92:=by rw[D];exact cJ (Im (c8 key) an)
 have a9:s.size=64:=by rw[<-aj,b,oX]
 have ba:r.size=64:=by rw[<-aj,i,oX]
 obtain⟨I,N⟩:=aP (mj false (ua (bI key) 54++gI l));obtain⟨R,hR⟩:=aP (Dz (bI key) (gI l));have n:=aa (by rw[N];exact eG _ _:I.length=32);have O:=aa (by rw[N];exact kY _ _:∀z∈I,0<=z/\z<=255);have Q:=aa (by rw[hR];exact eG _ _:R.length=32);have aV:=aa (by rw[hR,N];rfl:R=mj false (ua (bI key) 92++I));have HI:=aa N;rw[<-hR];obtain⟨ad,m,c,rfl,hm,E⟩:=h.news B;subst hm;have HV:=aa h;have aX:=aa B;have F:=aa hl;have aY:=aa hs;have HW:=aa hw;have HF:=aa hf;have aZ:=aa b;have a0:=aa i;have bb:=aa (by rw[<-aj,cJ O.o,n.o]:(strOfNums I).size=32)
 skip
 clear E C D h B hl hs hw hf N hR b i
 go_enter func96,ntmps96
 go_upto_region 1 with(fail)
 refine aU (λW=>Below w.heap.size w W/\Whole W w.heap.size 22 (ai .u8 (List.replicate 32 0))) ⟨by go_grown,Whole.new bj rfl⟩ ?_;intro W0 ⟨S,U⟩;have V:=aa S;have X:=aa U;clear S U
 go_wp2_with fail
 refine(aR.o W0).mono ?_;rintro e Y ⟨rfl,b⟩;have a:=aa (V.o.trans (b.mono V.o.size));have Z:=aa (X.o.below b X.o.inside);clear b;obtain⟨i0,a1,a2,a3,a4⟩:=N9;have ab:=HV.o.below a.o (ak _);obtain⟨bc,m',c',a5,bd,ao⟩:=ab.news aX.o;injection a5 with e1 e2 e3;injection e1 with e1;subst e1 e2 e3;have av:=aa ao;clear ab ao
 go_wp2_with (at_builtin;refine wpList_append_own _ rfl _ _ 33 rfl Y.heap.size 9 i0 (.string ⟨#[]⟩) 1 16 underlying33 a1 a2 a3 a4 rfl an _ 1 [.string s] rfl (World.ownsRow_lit (base:=Y.heap.size) (e:=9) (size:=1) Y #[.string s] 1 (ak _) (by unfold maxLen;decide) rfl) ad l.length c (l.map Value.string) rfl ?c1 ?c2 ?c3 ?c4 ?c5 ?c6 ?_)
 case c1=>rw[aM,Nat.mul_one]
 case c2=>intro j u hj;have h1:=av.o j u hj;exact((aw Y.heap.size Y).alloc (ak _) _).cell (aH h1)|>.trans h1
 case c3=>intro u hu;obtain⟨q,_,rfl⟩:=fZ.1 hu;rfl
 case c4=>have:=F.o;unfold maxLen;omega
 case c5=>have:=F.o;omega
 case c6=>simp
 intro v' w2 t G _;have a6:=aa (ee.pj (l:=s::l) t);have i:Below w.heap.size w w2:=(a.o.alloc a.o.size _).grown G (by simp;exact bu a.o.size) (λk o=>by simp[Value.ownBlock]at o;subst o;exact a.o.size);have d:=aa i;have ax:=aa ((Z.o.alloc (.cells #[.string s] 9)).only G (by have:=Z.o.inside;simp[Value.ownBlock];omega));clear t G i av;have az:=aa (by unfold gI;rw[mS,aZ.o]:gI (s::l)=ua (bI key) 54++gI l)
 go_wp2_with fail
 refine(pL v' (s::l) w2 a6.o (by have:=F.o;simp;omega) (by rw[az.o,am,oX];have:=aY.o;omega) (HW.o.below d.o) (HF.o.below d.o)).mono ?_;rw[az.o,<-HI.o];rintro e w3 ⟨rfl,H⟩;have g:=aa (d.o.trans (H.mono d.o.size));have aB:=aa (ax.o.below H ax.o.inside);have s1:(prog.info? 22).map (·.size)=some (ai .u8 I).size:=by rw[ag,n.o];exact gE
 clear H
 go_upto_region 2 with(refine cQ rfl 22 (.tmp 5) (.tmp 11) rfl w3.heap.size (ai .u8 I) rfl rfl 22 _ (dR _ _) s1 (by rw[ag,n.o];rfl) (fL _ _) ?_)
 refine aU (λW=>Below w.heap.size w W/\Whole W w.heap.size 22 (ai .u8 (List.replicate 32 0))/\Whole W w3.heap.size 22 (ai .u8 I)) ⟨(g.o.alloc g.o.size _).grown (bW _ _ _) (by simp;exact bu g.o.size) (λk o=>by injection o with o;subst o;exact g.o.size),(aB.o.alloc _).only (bW _ _ _) (bE (dp aB.o.inside)),Whole.row (Whole.new (cs':=_) rfl rfl)⟩ ?_;intro W4 ⟨S,U,kI⟩;have x:=aa S;have aC:=aa U;have aE:=aa kI;clear S U kI s1;generalize w3.heap.size=g5 at*;refine mp 4 (λW=>Below W4.heap.size W4 W) al al (bA (aw _ _) 1) ?_;refine mD (.string key) ?_;refine xO (.string r) (λW hW=> ?_) ?_
 .refine cZ (f:=128) (args:=(#[.string key,.int .u8 92])) fN ?_;refine(aS.o W).mono ?_;rintro e W' ⟨rfl,hb⟩;exact⟨rfl,hW.trans (hb.mono hW.size)⟩
 refine mD (.slice (some ⟨g5,0,none⟩) 32 32) ?_;refine xO (.string (strOfNums I)) (λW hW=>aD ?_) ?_
 .have a8:=bv (P:=prog) W 99 5 underlying99 underlying5 g5 0 32 32 I n.o (ey W _ _ I 32 (aE.o.below hW aE.o.inside) n.o) 9 underlying9;go_simp
 refine q5 ?_;intro W5 J;have y:=aa (x.o.trans (J.mono x.o.size));have aF:=aa (aC.o.below J aC.o.inside);clear J
 go_wp2_with fail
 have aK:ee (W5.alloc (.cells #[.string r,.string (strOfNums I)] 9)) (.slice (some ⟨W5.heap.size,0,none⟩) 2 2) [r,strOfNums I]:=ee.j (l:= [r,strOfNums I]) (Whole.made W5 9 _);have p:=y.o.alloc y.o.size (.cells #[.string r,.string (strOfNums I)] 9)
 have K:gI [r,strOfNums I]=ua (bI key) 92++I:=by
  unfold gI;rw[mS,mS,List.flatMap_nil,bP,a0.o,cJ O.o]
 refine(pL _ [r,strOfNums I] _ aK bj (by rw[K,am,oX,n.o];decide) (HW.o.below p) (HF.o.below p)).mono ?_;rw[K,<-aV.o];rintro e W7 ⟨rfl,L⟩;have A:=aa (p.trans (L.mono p.size));have M:=(aF.o.alloc (.cells #[.string r,.string (strOfNums I)] 9)).below L (aF.o.alloc _).inside;have l2:=(At.j M).R (m:=32) (by rw[ag];rfl);have ro:=bY .u8 R 32 Q.o;have a7:=aa M;clear aK p K L M
 go_wp2_with fail
 refine ej rfl underlying22 rfl gE w.heap.size (ai .u8 R) _ rfl rfl a7.o (by rw[ag];rfl) (by rw[ag,Q.o]) ⟨rfl,?_⟩;exact A.o.grown (aG _ _ _ _) A.o.size (λk o=>by injection o with o;omega)
end Go.Proofs.P
namespace Go.Spk
def qp(s:ByteArray):List ByteArray:=Lib.splitB ⟨#[44]⟩ 0 (Lib.countB s ⟨#[44]⟩) s
theorem zg(a:bB):∀(k:Nat) (s x:bB),x∈Lib.splitB a 0 k s->x.size<=s.size
 |0,s,x,h=>by
  rw[Lib.splitB_zero]at h;obtain rfl:=ar.1 h;exact ak _
 |k+1,s,x,h=>by
  unfold Lib.splitB at h
  split at h
  .obtain rfl:=ar.1 h;exact ak _
  .rcases dz.1 h with rfl|h
   .simp;omega
   .have:=zg a k _ x h;simp at this;omega
def LO(B:Nat)(T:TypeId)(w:World)(v:Value)(l:List ByteArray):Prop:=
 (l= []/\ ∃A c,v= .slice A 0 c)\/(∃g,v= .slice (some ⟨g,0,none⟩) l.length l.length/\B<=g/\Whole w g T (l.map Value.string).toArray)
theorem vl(s:bB):(qp s).length=Lib.countB s ⟨#[44]⟩+1:=Lib.splitB_all _ an 0 _ s rfl
end Go.Spk
namespace Go.Proofs.P
theorem sJ(d c:Addr)(b:Nat)(e:iV):(fh d c b e).1.size<=b:=by
 unfold fh;obtain⟨n,s2⟩:=eT d 4 e;dsimp only;cases s2 with
 |bad a=>exact Nat.zero_le _
 |ok s=>
  by_cases h:(b:Int)<n
  .rw[show xT c n b (.ok s)= .bad c from if_pos h];exact Nat.zero_le _
  .rw[show xT c n b (.ok s)= .ok s from if_neg h];have:=sD d n.toNat (.ok s);omega
theorem vR(e c:Addr)(b:Nat)(d:iV):(fh e c b d).2.left<=d.left:=by
 unfold fh;have f:(eT e 4 d).2.left<=d.left:=oD e 4 d;generalize eT e 4 d=r at*
 have g:(xT c r.1 b r.2).left<=r.2.left:=by
  obtain⟨n,s2⟩:=r;cases s2 with
  |bad a=>exact ak _
  |ok s=>
   by_cases h:(b:Int)<n
   .show(xT c n b (.ok s)).left<=_;rw[show xT c n b (.ok s)= .bad c from aJ h];exact ce _
   .show(xT c n b (.ok s)).left<=_;rw[show xT c n b (.ok s)= .ok s from aq h];exact ak _
 exact ap (oD _ _ _) (ap g f)
def gg(a b c:Addr)(d:iV):List ByteArray×iV:=
 let r:=fh a b 4096 d
 if r.1.size=0 then([],r.2)else if(qp r.1).all jm then(qp r.1,r.2)else([],AJ c r.2)
theorem N6(g:Nat)(a:iV)(b c j:Addr)(mx:Int)(w:ay)(h:jF w g a)(cE:w.cell? ⟨1,0,none⟩=some (bM b))(cB:w.cell? ⟨3,0,none⟩=some (bM c))(J:w.cell? ⟨2,0,none⟩=some (bM j))(cM:w.cell? ⟨24,0,none⟩=some (.int .i64 mx))(N:30<=g):
 Calls prog 144 #[.pointer (some ⟨g,0,none⟩)] w λe O=> ∃v,e= .returned v/\LO w.heap.size 9 O v (gg b c j a).1/\jF O g (gg b c j a).2/\j5 w.heap.size g w O:=by
 have P:=aa (wG g a b c 4096 an w h cE cB N);have l:=sJ b c 4096 a;have f:=aa (show gg b c j a=(if(fh b c 4096 a).1.size=0 then([],(fh b c 4096 a).2)else if(qp (fh b c 4096 a).1).all jm then(qp (fh b c 4096 a).1,(fh b c 4096 a).2)else([],AJ j (fh b c 4096 a).2))from rfl);obtain⟨s,s2,hr⟩:∃s s2,fh b c 4096 a=(s,s2):=⟨_,_,rfl⟩;rw[hr]at P f l;dsimp only at P f l;obtain⟨R,hR⟩:=aP (gg b c j a);rw[<-hR]at f⊢;have z:=aa J;have A:=aa cM;have ad:=aa (Whole.inside h);have t:=aa l;clear h cE cB J cM hR hr l
 go_enter func144,ntmps144
 go_wp2_with fail
 refine P.o.mono ?_;rintro e W ⟨rfl,h1,hg⟩;have B:=aa hg;have HI:=aa h1;clear h1 hg
 by_cases C:s.size=0
 .obtain rfl:s=⟨#[]⟩:=by
   obtain⟨d⟩:=s;congr 1;exact Array.size_eq_zero_iff.1 C
  have p:=aa (by rw[f.o];rfl:R=([],s2));clear C
  go_wp2_with fail
  go_ret
  exact⟨_,rfl,by rw[p.o];exact .inl ⟨rfl,_,_,rfl⟩,by rw[p.o];exact HI.o,B.o⟩
 .have aj:=p8 C;have D:=aa (strings_Split s ⟨#[44]⟩ mx W (dp t.o) (B.o.tz A.o (block_lt_of_cell A.o) af) an);obtain⟨L,u⟩:=aP (qp s);have Q:=aa (by rw[u];exact(vl s).symm:Lib.countB s ⟨#[44]⟩+1=L.length);have al:=aa u;rw[show Lib.splitB ⟨#[44]⟩ 0 (Lib.countB s ⟨#[44]⟩) s=L from u.symm,Q.o]at D;have S:=aa (show∀x∈L,x.size<=4096 by rw[u];exact λx hx=>Nat.le_trans (zg _ _ _ x hx) t.o);have E:=aa (by rw[f.o,if_neg C,u]:R=if L.all jm then(L,s2)else([],AJ j s2))
  have ab:L.length<=100000:=by
   rw[u,vl];have:=Lib.countB_le ⟨#[44]⟩ an s.size s (Nat.le_refl _);have:=t.o;omega
  clear u C
  go_wp2_with fail
  refine D.o.mono ?_;rintro e K ⟨rfl,m⟩;have n:=aa (by rw[m];exact B.o.alloc B.o.size _:j5 w.heap.size g w K);have F:=aa (by rw[m];exact Whole.alloc HI.o _:jF K g s2);have G:=aa (by rw[m];exact Whole.made W _ _:Whole K W.heap.size 9 (L.map Value.string).toArray);clear m;have U:=aa B.o.size;generalize W.heap.size=gl at*
  go_wp2_with fail
  go_loopw [6,15] (λx6 i wr=> ∃k:Nat,k<=L.length/\i= .int .i64 k/\wr=K/\Hid ((L.take k).all jm=true)) (λ_ i _=>L.length -(intOf i).toNat)
  case atStart=>exact⟨0,Nat.zero_le _,rfl,rfl,aa rfl⟩
  case round=>
   obtain⟨k,hk,rfl,rfl,r⟩:=hrel
   by_cases o:k<L.length
   .have ii:(k:Int)<L.length:=af;have c0:wr.cell? ⟨gl,k,none⟩=some (.string L[k]):=by rw[G.o.at_];simp[o]
    have M:=aa (Ry L[k] (by have:=S.o L[k] (List.getElem_mem o);omega) wr)
    by_cases H:jm L[k]=true
    .have V:=aa (by rw[List.take_add_one,List.all_append,r.out,List.getElem?_eq_getElem o];simp[H]:(L.take (k+1)).all jm=true);rw[H]at M;clear H;generalize L[k]=x at*
     go_wp2_with fail
     refine M.o.mono ?_;rintro e W2 ⟨rfl,rfl⟩
     go_wp2_with fail
     go_roundw
     case rel=>exact⟨k+1,af,by go_num,by first|rfl|trivial,V.o⟩
     case measure=>simp[intOf];omega
    .have y:jm L[k]=false:=by simpa using H
     have p:=aa (by rw[E.o,if_neg (by rw[Bool.not_eq_true,List.all_eq_false];exact⟨L[k],List.getElem_mem o,by simp[y]⟩)]:R=([],AJ j s2));rw[y]at M;clear H y;generalize L[k]=x at*;have J:wr.cell? ⟨2,0,none⟩=some (bM j):=n.o.tz z.o (block_lt_of_cell z.o) af;have HF:=aa (tH g s2 j wr F.o);unfold bM at J
     go_wp2_with fail
     refine M.o.mono ?_;rintro e W2 ⟨rfl,rfl⟩
     go_wp2_with fail
     refine HF.o.mono ?_;rintro e W3 ⟨rfl,h3,I⟩;have X:=aa h3;have Y:=aa (n.o.grown I n.o.size (λq Z=>by injection Z with Z;exact .inr Z.symm));clear h3 I
     go_wp2_with fail
     go_ret
     exact⟨_,rfl,by rw[p.o];exact .inl ⟨rfl,_,_,rfl⟩,by rw[p.o];exact X.o,Y.o⟩
   .obtain rfl:k=L.length:=af;have p:=aa (show R=(L,s2) by rw[E.o,if_pos (by have:=r.out;rwa[List.take_of_length_le (Nat.le_refl _)]at this)])
    go_wp2_with fail
    go_ret
    exact⟨_,rfl,by rw[p.o];exact .inr ⟨_,rfl,U.o,G.o⟩,by rw[p.o];exact F.o,n.o⟩
end Go.Proofs.P
namespace Go.Spk
def ei(l:List ByteArray):ByteArray:=⟨(Lib.join (l.map (·.data.toList)) [44]).toArray⟩
def vY(l:List Int):List Int:=match l.dropWhile (· ==0)with
 | []=> []
 |x::r=>if 128<=x then 0::x::r else x::r
theorem vI(l:aR):(vY l).length<=l.length+1:=by
 have h:(l.dropWhile (· ==0)).length<=l.length:=(List.dropWhile_sublist _).length_le;unfold vY
 split
 .exact ce _
 .rename_i x r a;rw[a]at h
  split
  .simp at h⊢;omega
  .simp at h⊢;omega
theorem Ub(s:bB):bI ⟨(Lib.trimLeftB s.data.toList 0).toArray⟩=(bI s).dropWhile (· ==0):=by
 rw[L0];unfold Lib.trimLeftB bI;rw[List.dropWhile_map];congr 1
 induction s.data.toList with
 |nil=>rfl
 |cons b r a=>
  simp only[List.dropWhile_cons]
  by_cases h:b=0
  .subst h;simpa using a
  .have c:b.toNat≠0:=λe=>h (UInt8.toNat_inj.1 e);simp[h,c]
end Go.Spk
namespace Go.Proofs.P
def cG(s:ByteArray):List Int:=qJ s.size 4 4++bI s
theorem eQ(s:bB):(cG s).length=4+s.size:=by unfold cG;rw[am,eW,aj]
def ec(B b:Nat)(xs:List Int)(w:World):Prop:=gH 156 5 B b (xs.map (Value.int .u8)) w
theorem ec.fresh{w:ay}{b:Nat}(B:Nat)(a:w.heap[b]?=some (.cells #[.pointer none,.slice none 0 0] 156 (0,0))):ec B b [] w:=BX.fresh B a
theorem Fk(n:Nat)(f:n<4294967296)(B b:Nat)(xs:aR)(w:ay)(h:ec B b xs w)(a:xs.length<=100000000)(c:B<=w.heap.size):
 Calls prog 67 #[.pointer (some ⟨b,0,none⟩),.int .u32 n] w λe d=>e= .returned (.pointer (some ⟨b,0,none⟩))/\ec B b (xs++qJ n 4 4) d/\nK B b w d:=
 (abg n f B b _ w h (by rw[aM];exact a) c).mono λ_ _ h=>⟨h.1,by unfold ec;rw[cN];exact h.2.1,h.2.2⟩
theorem aa4(n:Nat)(f:n<4294967296)(B b:Nat)(xs:aR)(w:ay)(h:ec B b xs w)(a:xs.length<=100000000)(c:B<=w.heap.size):
 Calls prog 67 #[.pointer (some ⟨b,0,none⟩),.int .u32 n] w λe d=>e= .returned (.pointer (some ⟨b,0,none⟩))/\ec B b (xs++qJ n 4 4) d/\j5 B b w d:=
 (Fk n f B b xs w h a c).mono λ_ _ h=>⟨h.1,h.2.1,h.2.2.1⟩
theorem wT(s:bB)(f:s.size<=1000000000)(B b:Nat)(xs:aR)(w:ay)(h:ec B b xs w)(c:xs.length<=1000000000)(a:B<=w.heap.size):
 Calls prog 75 #[.pointer (some ⟨b,0,none⟩),.string s] w λe d=>e= .returned (.pointer (some ⟨b,0,none⟩))/\ec B b (xs++bI s) d/\nK B b w d:=
 (MG B b _ s w h (by rw[aM];omega) a).mono λ_ _ h=>⟨h.1,by unfold ec;rw[cN,<-ui];exact h.2.1,h.2.2⟩
theorem aa3(s:bB)(f:s.size<=1000000000)(B b:Nat)(xs:aR)(w:ay)(h:ec B b xs w)(a:xs.length<=1000000000)(c:B<=w.heap.size):
 Calls prog 75 #[.pointer (some ⟨b,0,none⟩),.string s] w λe d=>e= .returned (.pointer (some ⟨b,0,none⟩))/\ec B b (xs++bI s) d/\j5 B b w d:=
 (wT s f B b xs w h a c).mono λ_ _ h=>⟨h.1,h.2.1,h.2.2.1⟩
theorem Bi(c:Int)(B b:Nat)(xs:aR)(w:ay)(h:ec B b xs w)(d:xs.length<=1000000000)(a:B<=w.heap.size):
 Calls prog 66 #[.pointer (some ⟨b,0,none⟩),.int .u8 c] w λe f=>e= .returned (.pointer (some ⟨b,0,none⟩))/\ec B b (xs++ [c]) f/\nK B b w f:=
 (Ig B b _ c w h (by rw[aM];omega) a).mono λ_ _ h=>⟨h.1,by unfold ec;rw[cN];exact h.2.1,h.2.2⟩
theorem kE(s:bB)(k:s.size<=100000000)(B b:Nat)(xs:aR)(w:ay)(h:ec B b xs w)(a:xs.length<=100000000)(c:B<=w.heap.size):
 Calls prog 71 #[.pointer (some ⟨b,0,none⟩),.string s] w λe l=>e= .returned (.pointer (some ⟨b,0,none⟩))/\ec B b (xs++cG s) l/\nK B b w l:=by
 have u:IntKind.u32.wrap (s.size:Int)=s.size:=by rw[qx];omega
 have p:=aa (Fk s.size af B b xs w h a c);have q:=aa k;have f:=aa a;have r:=aa c;clear h k a c
 go_enter func71,ntmps71
 go_wp2_with fail
 refine p.o.mono ?_;rintro e W ⟨rfl,m,g⟩;have t:=aa g;have n:=aa (wT s (dp q.o) B b _ W m (by rw[am,eW];have:=f.o;omega) (ap r.o g.1.size));rw[bf]at n;clear m g
 go_wp2_with fail
 refine n.o.mono ?_;rintro e v ⟨rfl,o,d⟩;have i:=aa (t.o.trans d);have j:=aa o;clear o d
 go_wp2_with fail
 go_ret
 exact⟨rfl,j.o,i.o⟩
theorem DS(s:bB)(f:s.size<=100000000)(B b:Nat)(xs:aR)(w:ay)(h:ec B b xs w)(a:xs.length<=100000000)(c:B<=w.heap.size):
 Calls prog 71 #[.pointer (some ⟨b,0,none⟩),.string s] w λe d=>e= .returned (.pointer (some ⟨b,0,none⟩))/\ec B b (xs++cG s) d/\j5 B b w d:=
 (kE s f B b xs w h a c).mono λ_ _ h=>⟨h.1,h.2.1,h.2.2.1⟩
theorem RT(t:Bool)(B b:Nat)(xs:aR)(w:ay)(h:ec B b xs w)(a:xs.length<=1000000000)(d:B<=w.heap.size):
 Calls prog 69 #[.pointer (some ⟨b,0,none⟩),.bool t] w λe k=>e= .returned (.pointer (some ⟨b,0,none⟩))/\ec B b (xs++ [if t then 1 else 0]) k/\nK B b w k:=by
 cases t with
 |true=>
  have j:=aa (Bi 1 B b xs w h a d);clear h a d
  go_enter func69,ntmps69
  go_wp2_with fail
  refine j.o.mono ?_;rintro e l ⟨rfl,i,c⟩;have f:=aa c;have g:=aa i;clear i c
  go_wp2_with fail
  go_ret
  exact⟨rfl,g.o,f.o⟩
 |false=>
  have j:=aa (Bi 0 B b xs w h a d);clear h a d
  go_enter func69,ntmps69
  go_wp2_with fail
  refine j.o.mono ?_;rintro e l ⟨rfl,i,c⟩;have f:=aa c;have g:=aa i;clear i c
  go_wp2_with fail
  go_ret
  exact⟨rfl,g.o,f.o⟩
theorem yU(v:cH)(l:eL)(w:ay)(h:ee w v l)(hl:l.length<=1000000)(k:(ei l).size<=100000000):
 Calls prog 90 #[v,.string ⟨#[44]⟩] w λe a=>e= .returned (.string (ei l))/\Below w.heap.size w a:=by
 rcases h with⟨rfl,A,c,rfl⟩|⟨g,o,c,rfl,b,d,f⟩
 .refine(strings_Join_none A c ⟨#[44]⟩ w).mono ?_;rintro e a ⟨rfl,rfl⟩;exact⟨rfl,aw _ _⟩
 .have i:(Lib.join (l.map (·.data.toList)) [44]).length=(ei l).size:=by unfold ei;exact dH.symm
  refine(strings_Join g o c l ⟨#[44]⟩ w f d af b (ap (Nat.le_of_eq i) af)).mono ?_;rintro e a ⟨rfl,j⟩;exact⟨rfl,j⟩
theorem ec.below{B b:Nat}{xs:aR}{w a:ay}(h:ec B b xs w)(c:Below w.heap.size w a):ec B b xs a:=gH.below h c
theorem Oq(v:cH)(l:eL)(hl:l.length<=1000000)(g:(ei l).size<=100000000)(B b:Nat)(xs:aR)(w:ay)(hS:ee w v l)(h:ec B b xs w)(a:xs.length<=100000000)(c:B<=w.heap.size):
 Calls prog 73 #[.pointer (some ⟨b,0,none⟩),v] w λe m=>e= .returned (.pointer (some ⟨b,0,none⟩))/\ec B b (xs++cG (ei l)) m/\nK B b w m:=by
 have p:=aa (yU v l w hS hl g);have q:=aa g;have i:=aa a;have n:=aa c;have r:=aa h;generalize ei l=J at*;clear h g a c hl hS
 go_enter func73,ntmps73
 go_wp2_with fail
 refine p.o.mono ?_;rintro e W ⟨rfl,f⟩;have s:=aa (nK.cL (b:=b) f n.o);have t:=aa (kE J q.o B b xs W (r.o.below f) i.o (ap n.o f.size));clear f
 go_wp2_with fail
 refine t.o.mono ?_;rintro e u ⟨rfl,o,d⟩;have j:=aa (s.o.trans d);have k:=aa o;clear o d
 go_wp2_with fail
 go_ret
 exact⟨rfl,k.o,j.o⟩
theorem MF(s:bB)(V:s.size<=1000000)(B b:Nat)(xs:aR)(w:ay)(h:ec B b xs w)(f:xs.length<=100000000)(n:B<=w.heap.size):
 Calls prog 187 #[.pointer (some ⟨b,0,none⟩),.string s] w λe A=>e= .returned (.pointer (some ⟨b,0,none⟩))/\ec B b (xs++(qJ (vY (bI s)).length 4 4++vY (bI s))) A/\nK B b w A:=by
 have E:=aa (strings_TrimLeft_one s 0 an w);obtain⟨t,C⟩:∃t:ByteArray,t=⟨(Lib.trimLeftB s.data.toList 0).toArray⟩:=⟨_,rfl⟩;have c:bI t=(bI s).dropWhile (· ==0):=by rw[C];exact Ub s
 have o:t.size<=1000000:=by
  rw[<-aj,c];have:=(List.dropWhile_sublist (l:=bI s) (· ==0)).length_le;rw[aj]at this;omega
 rw[<-C]at E;obtain⟨R,v⟩:=aP (vY (bI s))
 have y:Hid (∀u:ByteArray,bI u=R->u.size<=1000001-> ∀W,ec B b xs W->B<=W.heap.size->Calls prog 71 #[.pointer (some ⟨b,0,none⟩),.string u] W λe A=>e= .returned (.pointer (some ⟨b,0,none⟩))/\ec B b (xs++(qJ R.length 4 4++R)) A/\nK B b W A):=aa (λu L z W G H=>by
  have F:=kE u af B b xs W G f H;unfold cG at F;rw[L]at F;have m:u.size=R.length:=by rw[<-L,aj]
  rw[m]at F;exact F)
 rw[<-v];have I:=aa h;have J:=aa n;have O:=aa o
 by_cases z:t.size=0
 .obtain rfl:t=⟨#[]⟩:=by
   obtain⟨d⟩:=t;congr 1;exact Array.size_eq_zero_iff.1 z
  have D:=aa (y.o ⟨#[]⟩ (by rw[v];unfold vY;rw[<-c];rfl) an w I.o J.o);clear h f n c o z C v y
  go_enter func187,ntmps187
  go_wp2_with fail
  refine E.o.mono ?_;rintro e W ⟨rfl,rfl⟩
  go_wp2_with fail
  refine D.o.mono ?_;rintro e M ⟨rfl,m,a⟩;have i:=aa a;have j:=aa m;clear m a
  go_wp2_with fail
  go_ret
  exact⟨rfl,j.o,i.o⟩
 .have P:=p8 z;have K:0<t.size:=af;have X:(0:Int)<t.size:=af;have g:=Dc t 0 K
  obtain⟨x,r,k⟩:∃x r,bI t=x::r:=by
   cases Q:bI t with
   |nil=>rw[Q]at g;cases g
   |cons x r=>exact⟨x,r,rfl⟩
  have p:x=((t[0].toNat:Nat):Int):=by rw[k]at g;simpa using g
  by_cases q:128<=t[0].toNat
  .have D:=aa (λW G S=>y.o (⟨#[0]⟩++t) (by rw[mI,v];unfold vY;rw[<-c,k];dsimp only;rw[if_pos (by rw[p];omega)];rfl) (by rw[<-aj,mI,List.length_append,aj,aj];show 1+t.size<=_;omega) W G S);have U:(128:Int)<=((t[0].toNat:Nat):Int):=af;have N:(ByteArray.mk #[0]).size+t.size<=1000001:=by show 1+t.size<=_;omega
   clear h f n c o z C v y g k p q
   go_enter func187,ntmps187
   go_wp2_with fail
   refine E.o.mono ?_;rintro e W ⟨rfl,rfl⟩
   go_wp2_with fail
   refine(D.o _ I.o J.o).mono ?_;rintro e M ⟨rfl,m,a⟩;have i:=aa a;have j:=aa m;clear m a
   go_wp2_with fail
   go_ret
   exact⟨rfl,j.o,i.o⟩
  .have D:=aa (y.o t (by rw[v];unfold vY;rw[<-c,k];dsimp only;rw[if_neg (by rw[p];omega)]) af w I.o J.o);have U:¬(128:Int)<=((t[0].toNat:Nat):Int):=af;clear h f n c o z C v y g k p q
   go_enter func187,ntmps187
   go_wp2_with fail
   refine E.o.mono ?_;rintro e W ⟨rfl,rfl⟩
   go_wp2_with fail
   refine D.o.mono ?_;rintro e M ⟨rfl,m,a⟩;have i:=aa a;have j:=aa m;clear m a
   go_wp2_with fail
   go_ret
   exact⟨rfl,j.o,i.o⟩
structure de where
 kind:Int
 U:List Nat
 S:List ByteArray
 N:List (List ByteArray)
 B:List Bool
def nS:List (Int×ByteArray×ByteArray):= [
 (1,⟨#[100,105,115,99,111,110,110,101,99,116]⟩,⟨#[117,115,115]⟩),
 (2,⟨#[105,103,110,111,114,101]⟩,⟨#[115]⟩),
 (3,⟨#[117,110,105,109,112,108,101,109,101,110,116,101,100]⟩,⟨#[117]⟩),
 (4,⟨#[100,101,98,117,103]⟩,⟨#[98,115,115]⟩),
 (5,⟨#[115,101,114,118,105,99,101,45,114,101,113,117,101,115,116]⟩,⟨#[115]⟩),
 (6,⟨#[115,101,114,118,105,99,101,45,97,99,99,101,112,116]⟩,⟨#[115]⟩),
 (20,⟨#[107,101,120,105,110,105,116]⟩,⟨#[99,110,110,110,110,110,110,110,110,110,110,98,117]⟩),
 (21,⟨#[110,101,119,107,101,121,115]⟩,⟨#[]⟩),
 (30,⟨#[101,99,100,104,45,105,110,105,116]⟩,⟨#[115]⟩),
 (31,⟨#[101,99,100,104,45,114,101,112,108,121]⟩,⟨#[115,115,115]⟩),
 (50,⟨#[97,117,116,104,45,114,101,113,117,101,115,116]⟩,⟨#[115,115,115,114]⟩),
 (51,⟨#[97,117,116,104,45,102,97,105,108,117,114,101]⟩,⟨#[110,98]⟩),
 (52,⟨#[97,117,116,104,45,115,117,99,99,101,115,115]⟩,⟨#[]⟩),
 (53,⟨#[98,97,110,110,101,114]⟩,⟨#[115,115]⟩),
 (60,⟨#[112,107,45,111,107]⟩,⟨#[115,115]⟩),
 (80,⟨#[103,108,111,98,97,108,45,114,101,113,117,101,115,116]⟩,⟨#[115,98,114]⟩),
 (81,⟨#[114,101,113,117,101,115,116,45,115,117,99,99,101,115,115]⟩,⟨#[114]⟩),
 (82,⟨#[114,101,113,117,101,115,116,45,102,97,105,108,117,114,101]⟩,⟨#[]⟩),
 (90,⟨#[111,112,101,110]⟩,⟨#[115,117,117,117,114]⟩),
 (91,⟨#[99,111,110,102,105,114,109]⟩,⟨#[117,117,117,117,114]⟩),
 (92,⟨#[111,112,101,110,45,102,97,105,108,117,114,101]⟩,⟨#[117,117,115,115]⟩),
 (93,⟨#[97,100,106,117,115,116]⟩,⟨#[117,117]⟩),
 (94,⟨#[100,97,116,97]⟩,⟨#[117,115]⟩),
 (95,⟨#[101,120,116,101,110,100,101,100]⟩,⟨#[117,117,115]⟩),
 (96,⟨#[101,111,102]⟩,⟨#[117]⟩),
 (97,⟨#[99,108,111,115,101]⟩,⟨#[117]⟩),
 (98,⟨#[99,104,97,110,110,101,108,45,114,101,113,117,101,115,116]⟩,⟨#[117,115,98,114]⟩),
 (99,⟨#[99,104,97,110,110,101,108,45,115,117,99,99,101,115,115]⟩,⟨#[117]⟩),
 (100,⟨#[99,104,97,110,110,101,108,45,102,97,105,108,117,114,101]⟩,⟨#[117]⟩)]
def tE(k:Int):Option (Int×ByteArray×ByteArray):=nS.find? (λr=>r.1==k)
def dh(k:Int):Option ByteArray:=(tE k).map (·.2.2)
theorem ra{k}{f}(h:dh k=some f):f.size<=13:=by
 have:∀r∈nS,r.2.2.size<=13:=an;unfold dh tE at h;obtain⟨r,a,rfl⟩:=bN.1 h;exact this r (List.mem_of_find?_eq_some a)
def Aj(c:Int):Prop:=c=117\/c=98\/c=115\/c=110\/c=99\/c=114
theorem nt{k}{f}(h:dh k=some f):∀c∈bI f,Aj c:=by
 have:∀r∈nS,∀c∈bI r.2.2,c=117\/c=98\/c=115\/c=110\/c=99\/c=114:=an;unfold dh tE at h;obtain⟨r,a,rfl⟩:=bN.1 h;exact this r (List.mem_of_find?_eq_some a)
def dM(c:Int)(m:de):de:=
 if c=117 then{m with U:=m.U.tail}else if c=98 then{m with B:=m.B.tail}else if c=110 then{m with N:=m.N.tail}else{m with S:=m.S.tail}
def ou(c:Int)(m:de):List Int:=
 if c=117 then qJ (m.U.headD 0) 4 4 else if c=98 then[if m.B.headD false then 1 else 0]else if c=115 then cG (m.S.headD ⟨#[]⟩)else if c=110 then cG (ei (m.N.headD []))else bI (m.S.headD ⟨#[]⟩)
def mf:List Int->de->List Int
 | [],_=> []
 |c::r,m=>ou c m++mf r (dM c m)
def vL(c:Int)(m:de):Prop:=
 if c=117 then∃x r,m.U=x::r/\x<4294967296 else if c=98 then∃x r,m.B=x::r else if c=110 then∃x r,m.N=x::r/\(∀s∈x,jm s=true)/\(ei x).size<=4096
 else if c=99 then∃x r,m.S=x::r/\x.size=16 else∃x r,m.S=x::r/\x.size<=32768
def I7:List Int->de->Prop
 | [],m=>m.U= []/\m.S= []/\m.N= []/\m.B= []
 |c::r,m=>vL c m/\I7 r (dM c m)
def Cb(m:de):Prop:= ∃f,dh m.kind=some f/\I7 (bI f) m
def Rw(f:ByteArray)(m:de):List Int:= [m.kind %256]++mf (bI f) m
def db(m:de):ByteArray:=match dh m.kind with
 |some f=>strOfNums (Rw f m)
 |none=>⟨#[]⟩
def zB(r:Int×ByteArray×ByteArray):Array Value:= #[.int .i64 r.1,.string r.2.1,.string r.2.2]
def ID:Array Value:=(nS.flatMap λr=>(zB r).toList).toArray
def m0(w:World):Prop:=Whole w 23 238 ID
theorem m0.below{w w'}(h:m0 w)(a:Below w.heap.size w w'):m0 w':=Whole.below h a (Whole.inside h)
theorem CJ(n:Nat)(r:Int×ByteArray×ByteArray)(h:nS[n]?=some r)(w:ay):(Instr.index 238 (.agg ID) (.int .i64 n)).run prog w= .ok (.agg (zB r)) w:=by
 have b:n<29:=(aI.1 h).1;have a:n=0\/n=1\/n=2\/n=3\/n=4\/n=5\/n=6\/n=7\/n=8\/n=9\/n=10\/n=11\/n=12\/n=13\/n=14\/n=15\/n=16\/n=17\/n=18\/n=19\/n=20\/n=21\/n=22\/n=23\/n=24\/n=25\/n=26\/n=27\/n=28:=af;rcases a with rfl|rfl|rfl|rfl|rfl|rfl|rfl|rfl|rfl|rfl|rfl|rfl|rfl|rfl|rfl|rfl|rfl|rfl|rfl|rfl|rfl|rfl|rfl|rfl|rfl|rfl|rfl|rfl|rfl
 all_goals(injection h with h;subst h;show _=_;kernel_rfl)
section
variable {d:Tmp}{x y:Operand}{ty:TypeId}{pos:String}{after:Array Edge}{gd:Option (Nat×Bool)}{a:Go.Act}{w:World}{K:Go.Act->World->Prop}{Q:Exit->Go.Act->World->Prop}
theorem WY(b:jQ w (a.eval x) 3):Oper.wp prog ⟨some d,.load 205 x,ty,pos,after,gd⟩ a w K Q=K (a.put (some d) (jx w (a.eval x) 3)) w:=iS underlying205 rfl al b
theorem Xd(b:jQ w (a.eval x) 3)(c:mZ 3 (a.eval y)):Oper.wp prog ⟨none,.store 205 x y,ty,pos,after,gd⟩ a w K Q=K (a.put none undef) (w.setCells (lY (a.eval x)) (lZ (a.eval x)) (a.eval y).cells.toList):=lj al b c
theorem WZ(b:jQ w (a.eval x) 87):Oper.wp prog ⟨some d,.load 238 x,ty,pos,after,gd⟩ a w K Q=K (a.put (some d) (jx w (a.eval x) 87)) w:=iS underlying238 rfl al b
theorem WX(b:jQ w (.pointer (some ⟨23,0,none⟩)) 87):Oper.wp prog ⟨some d,.load 238 (.global 23),ty,pos,after,gd⟩ a w K Q=K (a.put (some d) (jx w (.pointer (some ⟨23,0,none⟩)) 87)) w:=WZ b
end
theorem EZ:(prog.info? 205).map (·.size)=some 3:=al
theorem IC(r:Int×ByteArray×ByteArray):(zB r).all (·.oneCell')=true:=by simp[zB,Value.oneCell']
theorem SA(r:Int×ByteArray×ByteArray):mZ 3 (.agg (zB r)):=⟨_,rfl,rfl,IC r⟩
theorem AK{α:Type}{p}{l:List α}{k}{x}(h:l[k]?=some x)(a:(l.take k).find? p=none)(b:p x=false):(l.take (k+1)).find? p=none:=by
 rw[mT,List.find?_append,a,h];simp[b]
theorem QF{α:Type}{p}{l:List α}{k}{x}(h:l[k]?=some x)(b:(l.take k).find? p=none)(c:p x=true):l.find? p=some x:=by
 have e:l=l.take k++x::l.drop (k+1):=by
  have d:=(aI.1 h).1;have a:=(aI.1 h).2;rw[<-a,List.getElem_cons_drop,cR]
 rw[e,List.find?_append,b];simp[c]
attribute [local go_sem ↓] WY Xd WX Go.wp_at_zero Go.wp_at_succ
attribute [local go_sem] cr cD
def QJ(o:Option (Int×ByteArray×ByteArray)):Array Value:=match o with
 |some r=>zB r
 |none=> #[.int .i64 0,.string ⟨#[]⟩,.string ⟨#[]⟩]
theorem YJ(key:Int)(w:ay)(F:m0 w):
 Calls prog 100 #[.int .i64 key] w λe J=>e= .returned (.tuple #[.agg (QJ (tE key)),.bool (tE key).isSome])/\Below w.heap.size w J:=by
 obtain⟨G,f⟩:=aP (tE key);have o:=aa f;rw[<-f];have K:=aa F;clear f F
 go_enter func100,ntmps100
 go_upto_region 1 with(fail)
 refine aU (λW=>Below w.heap.size w W/\Whole W w.heap.size 205 #[.int .i64 0,.string ⟨#[]⟩,.string ⟨#[]⟩]) ⟨by go_grown,Whole.new rfl rfl⟩ ?_;intro R ⟨b,c⟩;have L:=aa b;have M:=aa c;have g:=K.o.below b;have H:=(At.j g).R (m:=87) rfl;have x:=(At.j g).row (m:=87) rfl;obtain⟨S,h⟩:=aP ID;have y:=aa h;rw[<-h]at x;clear b c g h
 go_wp2_with fail
 clear H x
 go_loopw [5,7] (λ_ i W=> ∃k:Nat,k<=29/\i= .int .i64 k/\Hid ((nS.take k).find? (λr=>r.1==key)=none)/\Below w.heap.size w W/\Whole W w.heap.size 205 #[.int .i64 0,.string ⟨#[]⟩,.string ⟨#[]⟩]) (λ_ i _=>29 -(intOf i).toNat)
 case atStart=>exact⟨0,af,rfl,aa rfl,L.o,M.o⟩
 case round=>
  obtain⟨k,v,rfl,j,b,c⟩:=hrel;have l:=aa b;have s:=aa c;clear b c
  by_cases z:k<29
  .have U:(k:Int)<29:=af
   obtain⟨r,A⟩:∃r,nS[k]?=some r:=by
    have:k<nS.length:=z;exact⟨_,aQ this⟩
   have B:=λW=>y.o▸CJ k r A W;have t:=aa A;have s1:(prog.info? 205).map (·.size)=some (zB r).size:=EZ;clear A
   go_upto_region 4 with(refine cQ rfl 205 (.tmp 5) (.tmp 9) rfl wr.heap.size (zB r) rfl rfl 205 _ (dR _ _) s1 rfl (IC r) ?_)
   refine aU (λW=>Below w.heap.size w W/\Whole W w.heap.size 205 #[.int .i64 0,.string ⟨#[]⟩,.string ⟨#[]⟩]/\Whole W wr.heap.size 205 (zB r)) ⟨(l.o.alloc l.o.size _).grown (bW _ _ _) (by simp;exact bu l.o.size) (λk v=>by injection v with v;subst v;exact l.o.size),(s.o.alloc _).only (bW _ _ _) (bE (bD s.o.inside)),Whole.row (Whole.new (cs':=_) rfl rfl)⟩ ?_;intro N ⟨b,c,n⟩;have C:=aa b;have I:=aa c;have V:=aa n;clear B s1 l s;generalize wr.heap.size=O at*;have c0:N.cell? ⟨O,0,none⟩=some (.int .i64 r.1):=by rw[n.at_];rfl
   by_cases a:r.1=key
   .have D:=aa (by rw[o.o];exact QF t.o j.out (ek a):G=some r);have d:(r.1==key)=true:=by simpa using a
    have H:=(At.j n).R (m:=3) rfl;have x:=(At.j n).row (m:=3) rfl;have P:=(At.j c).R (m:=3) rfl;have Q:=SA r;clear b c n a
    go_wp2_with fail
    refine cI (dN (p:=2) (u:=3) rfl _ _ w.heap.size 205 (zB r) (0,0) _ rfl (I.o.fill rfl) underlying205 rfl EZ) rfl ⟨by rw[D.o];rfl,?_⟩;exact C.o.grown (aG _ _ _ _) C.o.size (λq d=>by injection d with d;first|done|omega)
   .have d:(r.1==key)=false:=by simpa using a
    have E:=aa (AK t.o j.out d);clear b c n a
    go_wp2_with fail
    go_roundw
    case rel=>exact⟨k+1,af,by go_num,E.o,C.o,I.o⟩
    case measure=>simp[intOf];omega
  .obtain rfl:k=29:=af;have D:=aa (by rw[o.o];exact j.out:G=none);have P:=(At.j s.o).R (m:=3) rfl;have Q:mZ 3 (.agg #[.int .i64 0,.string ⟨#[]⟩,.string ⟨#[]⟩]):=⟨_,rfl,rfl,by simp[Value.oneCell']⟩
   go_wp2_with fail
   refine cI (dN (p:=2) (u:=3) rfl _ _ w.heap.size 205 #[.int .i64 0,.string ⟨#[]⟩,.string ⟨#[]⟩] (0,0) _ rfl (s.o.fill rfl) underlying205 rfl EZ) rfl ⟨by rw[D.o];rfl,?_⟩;exact l.o.grown (aG _ _ _ _) l.o.size (λq d=>by injection d with d;omega)
end Go.Proofs.P
namespace Go.Spk
def vV(B:Nat)(w:World)(v:Value)(cs:List Value):Prop:=
 (cs= []/\ ∃A c,v= .slice A 0 c)\/(∃g o c,v= .slice (some ⟨g,o,none⟩) cs.length c/\cs.length<=c/\g<B/\ ∀j x,cs[j]?=some x->w.cell? ⟨g,o+j,none⟩=some x)
def eR(B:Nat)(w a:World):Prop:= ∀i,i<B->a.heap[i]?=w.heap[i]?
theorem eR.refl(B:Nat)(w:ay):eR B w w:=λ_ _=>rfl
theorem eR.trans{B}{a b c}(h:eR B a b)(k:eR B b c):eR B a c:=λi d=>(k i d).trans (h i d)
theorem eR.cL{B B'}{w w'}(h:Below B' w w')(a:B<=B'):eR B w w':=λi b=>h.block i af
theorem eR.ym{B B' b}{w w'}(h:j5 B' b w w')(a:B<=B')(c:B<=b):eR B w w':=λi d=>h.block i af af
theorem eR.bZ{B g}{w w'}(h:w.grownBy w' (some g))(a:B<=w.heap.size)(b:B<=g):eR B w w':=λi c=>h.block i af (bE af)
theorem eR.cell{B}{w w'}(h:eR B w w'){g o}(a:g<B):w'.cell? ⟨g,o,none⟩=w.cell? ⟨g,o,none⟩:=df (h g a)
theorem vV.same{B}{w w'}{v}{cs}(h:vV B w v cs)(b:eR B w w'):vV B w' v cs:=by
 rcases h with h|⟨g,o,c,d,e,a,f⟩
 .exact .inl h
 .exact .inr ⟨g,o,c,d,e,a,λj x i=>(b.cell a).trans (f j x i)⟩
theorem vV.mono{B B'}{w}{v}{cs}(h:vV B w v cs)(e:B<=B'):vV B' w v cs:=by
 rcases h with h|⟨g,o,c,a,b,f,d⟩
 .exact .inl h
 .exact .inr ⟨g,o,c,a,b,af,d⟩
theorem vV.strs{B}{w}{v}{l}(h:vV B w v (l.map Value.string))(f:B<=w.heap.size):ee w v l:=by
 rcases h with⟨h,A,c,a⟩|⟨g,o,c,a,b,i,d⟩
 .exact .inl ⟨by simpa using h,A,c,a⟩
 .refine .inr ⟨g,o,c,by simpa using a,by simpa using b,af,λj x e=>d j _ (by rw[bi,e];rfl)⟩
theorem vV.len{B}{w}{v}{cs}(h:vV B w v cs):∃A c,v= .slice A cs.length c:=by
 rcases h with⟨h,A,c,a⟩|⟨g,o,c,a,_⟩
 .exact⟨A,c,by rw[a,h];rfl⟩
 .exact⟨_,_,a⟩
theorem vV.cons{B}{w}{v x}{cs}(h:vV B w v (x::cs)):∃g o c,v= .slice (some ⟨g,o,none⟩) (cs.length+1) c/\cs.length+1<=c/\g<B/\w.cell? ⟨g,o,none⟩=some x/\vV B w (.slice (some ⟨g,o+1,none⟩) cs.length (c -1)) cs:=by
 rcases h with⟨h,_⟩|⟨g,o,c,e,a,b,d⟩
 .cases h
 .refine⟨g,o,c,e,a,b,d 0 x rfl,.inr ⟨g,o+1,c -1,rfl,by simp at a;omega,b,λj y f=> ?_⟩⟩;have:=d (j+1) y (ek f);rwa[show o+(j+1)=o+1+j by omega]at this
end Go.Spk
namespace Go.Proofs.P
def Cx(k:Int):ByteArray:=(dh k).getD ⟨#[]⟩
theorem wC(key:Int)(w:ay)(i:m0 w):
 Calls prog 65 #[.int .i64 key] w λe o=>e= .returned (.tuple #[.string (Cx key),.bool (dh key).isSome])/\Below w.heap.size w o:=by
 obtain⟨a,b,c⟩:∃a b,QJ (tE key)= #[.int .i64 a,.string b,.string (Cx key)]:=by
  unfold Cx dh;cases tE key with
  |none=>exact⟨_,_,rfl⟩
  |some r=>exact⟨_,_,rfl⟩
 have j:=aa (YJ key w i);rw[c,show(tE key).isSome=(dh key).isSome by unfold dh;rw[Option.isSome_map]]at j;generalize Cx key=d at*;generalize(dh key).isSome=q at*;have s1:(prog.info? 205).map (·.size)=some (#[.int .i64 a,.string b,.string d]:Array Value).size:=EZ;have s2:(#[.int .i64 a,.string b,.string d]:Array Value).all (·.oneCell')=true:=by simp[Value.oneCell']
 clear c i
 go_enter func65,ntmps65
 go_wp2_with fail
 refine j.o.mono ?_;rintro e W ⟨rfl,l⟩;have f:=aa l;clear l
 go_upto_region 2 with(refine cQ rfl 205 (.tmp 4) (.tmp 9) rfl W.heap.size #[.int .i64 a,.string b,.string d] rfl rfl 205 _ (dR _ _) s1 rfl s2 ?_)
 refine aU (λg=>Below w.heap.size w g/\Whole g W.heap.size 205 #[.int .i64 a,.string b,.string d]) ⟨(f.o.alloc f.o.size _).grown (bW _ _ _) (by simp;exact bu f.o.size) (λk h=>by injection h with h;subst h;exact f.o.size),Whole.row (Whole.new (cs':=_) rfl rfl)⟩ ?_;intro g ⟨m,n⟩;have p:=aa m;have c2:g.cell? ⟨W.heap.size,2,none⟩=some (.string d):=by rw[n.at_];rfl
 clear m n s1 s2
 go_wp2_with fail
 exact cI (results_tmp2 (t:=2) (u:=3) rfl _ _ _) rfl ⟨rfl,p.o⟩
def eO(w:World)(g:Nat)(a:Int)(b vs c d:Value):Prop:=Whole w g 161 #[.int .i64 a,b,vs,c,d]
theorem Zv(B g:Nat)(d:Int)(q vs f i:cH)(n:Int)(cs:gF)(w:ay)(h:eO w g d q vs f i)(r:B<=g)(t:B<=w.heap.size)(j:vV B w q (.int .u32 n::cs)):
 Calls prog 68 #[.pointer (some ⟨g,0,none⟩)] w λe k=>e= .returned (.int .u32 n)/\(∃v,vV B k v cs/\eO k g d v vs f i)/\w.grownBy k (some g):=by
 obtain⟨a,o,c,rfl,y,l,z,b⟩:=j.cons;have c1:w.cell? ⟨g,1,none⟩=some (.slice (some ⟨a,o,none⟩) (cs.length+1) c):=by rw[Whole.at_ h];rfl
 have A:=Whole.free h 1;have C:=aa (show a<B/\B<=g from⟨l,r⟩)
 by_cases m:c=1
 .subst m;have s:cs.length=0:=af;have u:=aa (nY.1 s);have p:=aa (show eO (w.setCell ⟨g,1,none⟩ (.slice (some ⟨a,o,none⟩) 0 0)) g d (.slice (some ⟨a,o,none⟩) 0 0) vs f i from Whole.stored h 1 _);clear h j b s
  go_enter func68,ntmps68
  go_wp2_with fail
  go_ret
  exact⟨rfl,⟨_,.inl ⟨u.o,_,_,rfl⟩,p.o⟩,aY _ rfl _⟩
 .have x:=aa (b.same (eR.bZ (aY (w:=w) ⟨g,1,none⟩ rfl (.slice (some ⟨a,o+1,none⟩) cs.length (c -1))) t r));have p:=aa (show eO (w.setCell ⟨g,1,none⟩ (.slice (some ⟨a,o+1,none⟩) cs.length (c -1))) g d (.slice (some ⟨a,o+1,none⟩) cs.length (c -1)) vs f i from Whole.stored h 1 _);clear h j b
  go_enter func68,ntmps68
  go_wp2_with fail
  go_ret
  exact⟨rfl,⟨_,x.o,p.o⟩,aY _ rfl _⟩
theorem Fp(B g:Nat)(d:Int)(f vs i j:cH)(x:bB)(cs:gF)(w:ay)(h:eO w g d f vs i j)(q:B<=g)(s:B<=w.heap.size)(k:vV B w vs (.string x::cs)):
 Calls prog 72 #[.pointer (some ⟨g,0,none⟩)] w λe l=>e= .returned (.string x)/\(∃v,vV B l v cs/\eO l g d f v i j)/\w.grownBy l (some g):=by
 obtain⟨a,o,c,rfl,y,m,z,b⟩:=k.cons;have c1:w.cell? ⟨g,2,none⟩=some (.slice (some ⟨a,o,none⟩) (cs.length+1) c):=by rw[Whole.at_ h];rfl
 have A:=Whole.free h 2;have C:=aa (show a<B/\B<=g from⟨m,q⟩)
 by_cases n:c=1
 .subst n;have r:cs.length=0:=af;have t:=aa (nY.1 r);have p:=aa (show eO (w.setCell ⟨g,2,none⟩ (.slice (some ⟨a,o,none⟩) 0 0)) g d f (.slice (some ⟨a,o,none⟩) 0 0) i j from Whole.stored h 2 _);clear h k b r
  go_enter func72,ntmps72
  go_wp2_with fail
  go_ret
  exact⟨rfl,⟨_,.inl ⟨t.o,_,_,rfl⟩,p.o⟩,aY _ rfl _⟩
 .have u:=aa (b.same (eR.bZ (aY (w:=w) ⟨g,2,none⟩ rfl (.slice (some ⟨a,o+1,none⟩) cs.length (c -1))) s q));have p:=aa (show eO (w.setCell ⟨g,2,none⟩ (.slice (some ⟨a,o+1,none⟩) cs.length (c -1))) g d f (.slice (some ⟨a,o+1,none⟩) cs.length (c -1)) i j from Whole.stored h 2 _);clear h k b
  go_enter func72,ntmps72
  go_wp2_with fail
  go_ret
  exact⟨rfl,⟨_,u.o,p.o⟩,aY _ rfl _⟩
theorem Sh(B g:Nat)(d:Int)(f vs p i:cH)(x:cH)(cs:gF)(w:ay)(h:eO w g d f vs p i)(q:B<=g)(s:B<=w.heap.size)(j:vV B w p (x::cs)):
 Calls prog 74 #[.pointer (some ⟨g,0,none⟩)] w λe k=>e= .returned (x)/\(∃v,vV B k v cs/\eO k g d f vs v i)/\w.grownBy k (some g):=by
 obtain⟨a,o,c,rfl,y,l,z,b⟩:=j.cons;have c1:w.cell? ⟨g,3,none⟩=some (.slice (some ⟨a,o,none⟩) (cs.length+1) c):=by rw[Whole.at_ h];rfl
 have A:=Whole.free h 3;have C:=aa (show a<B/\B<=g from⟨l,q⟩)
 by_cases m:c=1
 .subst m;have r:cs.length=0:=af;have t:=aa (nY.1 r);have n:=aa (show eO (w.setCell ⟨g,3,none⟩ (.slice (some ⟨a,o,none⟩) 0 0)) g d f vs (.slice (some ⟨a,o,none⟩) 0 0) i from Whole.stored h 3 _);clear h j b r
  go_enter func74,ntmps74
  go_wp2_with fail
  go_ret
  exact⟨rfl,⟨_,.inl ⟨t.o,_,_,rfl⟩,n.o⟩,aY _ rfl _⟩
 .have u:=aa (b.same (eR.bZ (aY (w:=w) ⟨g,3,none⟩ rfl (.slice (some ⟨a,o+1,none⟩) cs.length (c -1))) s q));have n:=aa (show eO (w.setCell ⟨g,3,none⟩ (.slice (some ⟨a,o+1,none⟩) cs.length (c -1))) g d f vs (.slice (some ⟨a,o+1,none⟩) cs.length (c -1)) i from Whole.stored h 3 _);clear h j b
  go_enter func74,ntmps74
  go_wp2_with fail
  go_ret
  exact⟨rfl,⟨_,u.o,n.o⟩,aY _ rfl _⟩
theorem Zr(B g:Nat)(d:Int)(f vs i p:cH)(x:Bool)(cs:gF)(w:ay)(h:eO w g d f vs i p)(q:B<=g)(s:B<=w.heap.size)(j:vV B w p (.bool x::cs)):
 Calls prog 70 #[.pointer (some ⟨g,0,none⟩)] w λe k=>e= .returned (.bool x)/\(∃v,vV B k v cs/\eO k g d f vs i v)/\w.grownBy k (some g):=by
 obtain⟨a,o,c,rfl,y,l,z,b⟩:=j.cons;have c1:w.cell? ⟨g,4,none⟩=some (.slice (some ⟨a,o,none⟩) (cs.length+1) c):=by rw[Whole.at_ h];rfl
 have A:=Whole.free h 4;have C:=aa (show a<B/\B<=g from⟨l,q⟩)
 by_cases m:c=1
 .subst m;have r:cs.length=0:=af;have t:=aa (nY.1 r);have n:=aa (show eO (w.setCell ⟨g,4,none⟩ (.slice (some ⟨a,o,none⟩) 0 0)) g d f vs i (.slice (some ⟨a,o,none⟩) 0 0)from Whole.stored h 4 _);clear h j b r
  go_enter func70,ntmps70
  go_wp2_with fail
  go_ret
  exact⟨rfl,⟨_,.inl ⟨t.o,_,_,rfl⟩,n.o⟩,aY _ rfl _⟩
 .have u:=aa (b.same (eR.bZ (aY (w:=w) ⟨g,4,none⟩ rfl (.slice (some ⟨a,o+1,none⟩) cs.length (c -1))) s q));have n:=aa (show eO (w.setCell ⟨g,4,none⟩ (.slice (some ⟨a,o+1,none⟩) cs.length (c -1))) g d f vs i (.slice (some ⟨a,o+1,none⟩) cs.length (c -1))from Whole.stored h 4 _);clear h j b
  go_enter func70,ntmps70
  go_wp2_with fail
  go_ret
  exact⟨rfl,⟨_,u.o,n.o⟩,aY _ rfl _⟩
end Go.Proofs.P
namespace Go.Spk
def my(t:ByteArray)(a:List UInt8):Nat:=(a.map λc=>Lib.countByte t.data.toList c).sum
theorem NP(t:bB)(a:List UInt8)(k:Nat)(c:UInt8)(h:a[k]?=some c):my t (a.take (k+1))=my t (a.take k)+Lib.countByte t.data.toList c:=by
 unfold my;rw[mT,h,cN,List.sum_append];simp
theorem wm(t:bB)(c:UInt8):Lib.countByte t.data.toList c<=t.size:=List.count_le_length
theorem Uw(t:bB)(a:List UInt8):my t a<=a.length*t.size:=by
 unfold my
 induction a with
 |nil=>simp
 |cons c r b=>
  have:=wm t c;simp only[List.map_cons,List.sum_cons,List.length_cons,Nat.add_mul,Nat.one_mul];omega
def wR(a:List UInt8):List ByteArray:=a.map λc=>⟨#[c]⟩
end Go.Spk
namespace Go.Proofs.P
theorem Yp(n c g:Nat)(t:bB)(o:t.size<=1000)(a:List UInt8)(hl:a.length<=100)(w:ay)(hS:∀j x,(wR a)[j]?=some x->w.cell? ⟨n,0+j,none⟩=some (.string x))(v:w.cell? ⟨g,0,none⟩=some (.string t)):
 Calls prog 129 #[.slice (some ⟨n,0,none⟩) a.length c,.pointer (some ⟨g,0,none⟩)] w λe p=>e= .returned (.int .i64 (my t a))/\p=w:=by
 have q:=aa hS;have y:=aa o;have z:=aa hl;clear hS
 go_enter func129,ntmps129
 go_wp2_with fail
 go_loopw [4,6,9] (λs _ i W=> ∃k:Nat,k<=a.length/\i= .int .i64 k/\s= .int .i64 (my t (a.take k))/\W=w) (λ_ _ i _=>a.length -(intOf i).toNat)
 case atStart=>exact⟨0,af,rfl,rfl,rfl⟩
 case round=>
  obtain⟨k,A,rfl,rfl,rfl⟩:=hrel
  by_cases b:k<a.length
  .have B:(k:Int)<a.length:=af;obtain⟨x,d⟩:∃x,a[k]?=some x:=⟨_,aQ b⟩;have c0:=q.o k ⟨#[x]⟩ (by unfold wR;rw[bi,d];rfl);rw[aW]at c0;have r:=aa (strings_Count_one t x wr);have f:=Uw t (a.take k);have h:=wm t x;have l:(a.take k).length*t.size<=100*1000:=fT (by rw[aO];omega) o;have C:IntKind.i64.wrap ((my t (a.take k):Int)+(Lib.countByte t.data.toList x:Int))=(my t (a.take k):Int)+(Lib.countByte t.data.toList x:Int):=by rw[fu];omega
   have m:=aa (NP t a k x d);clear d f h l
   go_wp2_with fail
   refine r.o.mono ?_;rintro e D ⟨rfl,rfl⟩
   go_wp2_with fail
   go_roundw
   case rel=>exact⟨k+1,af,by go_num,by rw[m.o,Int.natCast_add],by first|rfl|trivial⟩
   case measure=>simp[intOf];omega
  .obtain rfl:k=a.length:=af;have u:=aa (by rw[bL (ak _)]:my t (a.take a.length)=my t a)
   go_wp2_with fail
   go_ret
   exact⟨by rw[<-u.o];rfl,rfl⟩
def dP(a:Int)(b vs c d:Value):Array Value:= #[.int .i64 a,b,vs,c,d]
theorem NQ(V:Int)(vu vs vn vb:cH)(t:bB)(X:t.size<=1000)(G H I J:Option Addr)(L cs M N:Nat)
 (hu:vu= .slice G (my t [117]) L) (d:vs= .slice H (my t [115,99,114]) cs) (hn:vn= .slice I (my t [110]) M) (hb:vb= .slice J (my t [98]) N) (w:ay):
 Calls prog 98 #[.agg (dP V vu vs vn vb),.string t] w λe w'=>e= .returned (.bool true)/\Below w.heap.size w w':=by
 subst hu d hn hb;have HT:=aa X;have S:=aa (λgs c g (ls:List UInt8) (hl:ls.length<=100) W hS hg=>Yp gs c g t X ls hl W hS hg);generalize s:dP V (.slice G (my t [117]) L) (.slice H (my t [115,99,114]) cs) (.slice I (my t [110]) M) (.slice J (my t [98]) N)=MR;have Y:=aa s;obtain⟨O,u⟩:=aP (my t [117]);obtain⟨P,v⟩:=aP (my t [115,99,114]);obtain⟨Q,y⟩:=aP (my t [110]);obtain⟨R,z⟩:=aP (my t [98]);have HM:=aa (by rw[<-s,u,v,y,z]:MR=dP V (.slice G O L) (.slice H P cs) (.slice I Q M) (.slice J R N));have Z:=aa u;have ab:=aa v;have ad:=aa y;have aj:=aa z;clear s u v y z X Y
 go_enter func98,ntmps98
 go_upto_region 2 with(fail)
 refine aU (λW=>Below w.heap.size w W/\Whole W w.heap.size 106 MR/\Whole W (w.heap.size+1) 9 #[.string t]) ⟨by go_grown,(Whole.new rfl rfl).alloc _,Whole.new bj rfl⟩ ?_;intro n ⟨kB,q,kT⟩;rw[HM.o]at q;have B0:=aa kB;have M0:=aa q;have C1:=aa (by rw[q.at_];rfl:n.cell? ⟨w.heap.size,1,none⟩=some (.slice G O L));have C2:=aa (by rw[q.at_];rfl:n.cell? ⟨w.heap.size,2,none⟩=some (.slice H P cs));have C3:=aa (by rw[q.at_];rfl:n.cell? ⟨w.heap.size,3,none⟩=some (.slice I Q M));have C4:=aa (by rw[q.at_];rfl:n.cell? ⟨w.heap.size,4,none⟩=some (.slice J R N));have U:=aa (by rw[kT.at_];rfl:n.cell? ⟨w.heap.size+1,0,none⟩=some (.string t));have r:=aa (show w.heap.size<n.heap.size/\w.heap.size+1<n.heap.size from⟨q.inside,kT.inside⟩);clear kB q kT;refine jq (Kn.C n) Kn.le ⟨[],none⟩ al (Kn.start n) ?_;refine tp Kn.le_refl Kn.le_trans 0 (.pointer (some ⟨w.heap.size,1,none⟩)) ?_;refine Pf Kn.le_refl Kn.le_trans 1 (.slice G O L) (λA d W a=>aD ?_) ?_
 .have c1:=(a.base.cell (p:=⟨w.heap.size,1,none⟩) r.o.1).trans C1.o;go_simp
 refine tp Kn.le_refl Kn.le_trans 2 (.int .i64 O) ?_;refine tp Kn.le_refl Kn.le_trans 3 (.func (.func 129) #[] #[.pointer (some ⟨w.heap.size+1,0,none⟩)]) ?_;refine rJ [4] al rfl (λi l=> ?_);obtain rfl:=ar.1 l;clear l;refine oz rfl al (λK b W a=> ?_);refine uH (.slice (some ⟨W.heap.size,0,none⟩) 1 1) (W.alloc (.cells #[.string ⟨#[117]⟩] 9)) ⟨(W.heap.size,9,#[.string ⟨#[117]⟩]):: [],none⟩ fN (λ_ h=>cj _ h) (Kn.C.add a ((aw W.heap.size W).alloc (ak _) _) (ak _) (Whole.made W _ _)) (b _ _ ?_);generalize W.heap.size=k;go_simp;clear a b K W;refine gL Kn.le_refl Kn.le_trans 5 rfl al (λK b=> ?_);refine jl al ⟨(.int .i64 O),λA d W a=> ?_,?_⟩
 .refine cZ (f:=129) (args:=(#[.slice (some ⟨k,0,none⟩) 1 1,.pointer (some ⟨w.heap.size+1,0,none⟩)])) fN ?_;rw[Z.o];refine(S.o k 1 (w.heap.size+1) [117] an W (λj x B=> ?_) ((a.base.cell (p:=⟨w.heap.size+1,0,none⟩) r.o.2).trans U.o)).mono ?_
  .have D:=Kn.C.at_ a (d _ bj) (g:=k) (t:=9) (cs:= #[.string ⟨#[117]⟩]);rw[aW,D.at_]
   have E:((#[.string ⟨#[117]⟩]:Array Value)[j]?)=((wR [117])[j]?).map Value.string:=by
    unfold wR;rw[show(#[.string ⟨#[117]⟩]:Array Value)=(((wR [117]).map Value.string).toArray)from rfl,eg,bi]
    rfl
   rw[E,B];rfl
  .rintro e W' ⟨rfl,rfl⟩;exact⟨rfl,a⟩
 go_simp;refine b _ ?_;clear b K;refine tp Kn.le_refl Kn.le_trans 6 (.bool true) ?_;refine tp Kn.le_refl Kn.le_trans 7 (.bool true) ?_;refine tp Kn.le_refl Kn.le_trans 8 (.pointer (some ⟨w.heap.size,2,none⟩)) ?_;refine Pf Kn.le_refl Kn.le_trans 9 (.slice H P cs) (λA d W a=>aD ?_) ?_
 .have c1:=(a.base.cell (p:=⟨w.heap.size,2,none⟩) r.o.1).trans C2.o;go_simp
 refine tp Kn.le_refl Kn.le_trans 10 (.int .i64 P) ?_;refine tp Kn.le_refl Kn.le_trans 11 (.func (.func 129) #[] #[.pointer (some ⟨w.heap.size+1,0,none⟩)]) ?_;refine rJ [12] al rfl (λi l=> ?_);obtain rfl:=ar.1 l;clear l;refine oz rfl al (λK b W a=> ?_);refine uH (.slice (some ⟨W.heap.size,0,none⟩) 3 3) (W.alloc (.cells #[.string ⟨#[115]⟩,.string ⟨#[99]⟩,.string ⟨#[114]⟩] 9)) ⟨(W.heap.size,9,#[.string ⟨#[115]⟩,.string ⟨#[99]⟩,.string ⟨#[114]⟩])::(k,9,#[.string ⟨#[117]⟩]):: [],none⟩ fN (λ_ h=>cj _ h) (Kn.C.add a ((aw W.heap.size W).alloc (ak _) _) (ak _) (Whole.made W _ _)) (b _ _ ?_);generalize W.heap.size=m;go_simp;clear a b K W;refine gL Kn.le_refl Kn.le_trans 13 rfl al (λK b=> ?_);refine jl al ⟨(.int .i64 P),λA d W a=> ?_,?_⟩
 .refine cZ (f:=129) (args:=(#[.slice (some ⟨m,0,none⟩) 3 3,.pointer (some ⟨w.heap.size+1,0,none⟩)])) fN ?_;rw[ab.o];refine(S.o m 3 (w.heap.size+1) [115,99,114] an W (λj x B=> ?_) ((a.base.cell (p:=⟨w.heap.size+1,0,none⟩) r.o.2).trans U.o)).mono ?_
  .have D:=Kn.C.at_ a (d _ bj) (g:=m) (t:=9) (cs:= #[.string ⟨#[115]⟩,.string ⟨#[99]⟩,.string ⟨#[114]⟩]);rw[aW,D.at_]
   have E:((#[.string ⟨#[115]⟩,.string ⟨#[99]⟩,.string ⟨#[114]⟩]:Array Value)[j]?)=((wR [115,99,114])[j]?).map Value.string:=by
    unfold wR;rw[show(#[.string ⟨#[115]⟩,.string ⟨#[99]⟩,.string ⟨#[114]⟩]:Array Value)=(((wR [115,99,114]).map Value.string).toArray)from rfl,eg,bi]
    rfl
   rw[E,B];rfl
  .rintro e W' ⟨rfl,rfl⟩;exact⟨rfl,a⟩
 go_simp;refine b _ ?_;clear b K;refine tp Kn.le_refl Kn.le_trans 14 (.bool true) ?_;refine tp Kn.le_refl Kn.le_trans 15 (.bool true) ?_;refine tp Kn.le_refl Kn.le_trans 16 (.bool true) ?_;refine tp Kn.le_refl Kn.le_trans 17 (.pointer (some ⟨w.heap.size,3,none⟩)) ?_;refine Pf Kn.le_refl Kn.le_trans 18 (.slice I Q M) (λA d W a=>aD ?_) ?_
 .have c1:=(a.base.cell (p:=⟨w.heap.size,3,none⟩) r.o.1).trans C3.o;go_simp
 refine tp Kn.le_refl Kn.le_trans 19 (.int .i64 Q) ?_;refine tp Kn.le_refl Kn.le_trans 20 (.func (.func 129) #[] #[.pointer (some ⟨w.heap.size+1,0,none⟩)]) ?_;refine rJ [21] al rfl (λi l=> ?_);obtain rfl:=ar.1 l;clear l;refine oz rfl al (λK b W a=> ?_);refine uH (.slice (some ⟨W.heap.size,0,none⟩) 1 1) (W.alloc (.cells #[.string ⟨#[110]⟩] 9)) ⟨(W.heap.size,9,#[.string ⟨#[110]⟩])::(m,9,#[.string ⟨#[115]⟩,.string ⟨#[99]⟩,.string ⟨#[114]⟩])::(k,9,#[.string ⟨#[117]⟩]):: [],none⟩ fN (λ_ h=>cj _ h) (Kn.C.add a ((aw W.heap.size W).alloc (ak _) _) (ak _) (Whole.made W _ _)) (b _ _ ?_);generalize W.heap.size=o;go_simp;clear a b K W;refine gL Kn.le_refl Kn.le_trans 22 rfl al (λK b=> ?_);refine jl al ⟨(.int .i64 Q),λA d W a=> ?_,?_⟩
 .refine cZ (f:=129) (args:=(#[.slice (some ⟨o,0,none⟩) 1 1,.pointer (some ⟨w.heap.size+1,0,none⟩)])) fN ?_;rw[ad.o];refine(S.o o 1 (w.heap.size+1) [110] an W (λj x B=> ?_) ((a.base.cell (p:=⟨w.heap.size+1,0,none⟩) r.o.2).trans U.o)).mono ?_
  .have D:=Kn.C.at_ a (d _ bj) (g:=o) (t:=9) (cs:= #[.string ⟨#[110]⟩]);rw[aW,D.at_]
   have E:((#[.string ⟨#[110]⟩]:Array Value)[j]?)=((wR [110])[j]?).map Value.string:=by
    unfold wR;rw[show(#[.string ⟨#[110]⟩]:Array Value)=(((wR [110]).map Value.string).toArray)from rfl,eg,bi]
    rfl
   rw[E,B];rfl
  .rintro e W' ⟨rfl,rfl⟩;exact⟨rfl,a⟩
 go_simp;refine b _ ?_;clear b K;refine tp Kn.le_refl Kn.le_trans 23 (.bool true) ?_;refine tp Kn.le_refl Kn.le_trans 24 (.bool true) ?_;refine tp Kn.le_refl Kn.le_trans 25 (.bool true) ?_;refine tp Kn.le_refl Kn.le_trans 26 (.pointer (some ⟨w.heap.size,4,none⟩)) ?_;refine Pf Kn.le_refl Kn.le_trans 27 (.slice J R N) (λA d W a=>aD ?_) ?_
 .have c1:=(a.base.cell (p:=⟨w.heap.size,4,none⟩) r.o.1).trans C4.o;go_simp
 refine tp Kn.le_refl Kn.le_trans 28 (.int .i64 R) ?_;refine tp Kn.le_refl Kn.le_trans 29 (.func (.func 129) #[] #[.pointer (some ⟨w.heap.size+1,0,none⟩)]) ?_;refine rJ [30] al rfl (λi l=> ?_);obtain rfl:=ar.1 l;clear l;refine oz rfl al (λK b W a=> ?_);refine uH (.slice (some ⟨W.heap.size,0,none⟩) 1 1) (W.alloc (.cells #[.string ⟨#[98]⟩] 9)) ⟨(W.heap.size,9,#[.string ⟨#[98]⟩])::(o,9,#[.string ⟨#[110]⟩])::(m,9,#[.string ⟨#[115]⟩,.string ⟨#[99]⟩,.string ⟨#[114]⟩])::(k,9,#[.string ⟨#[117]⟩]):: [],none⟩ fN (λ_ h=>cj _ h) (Kn.C.add a ((aw W.heap.size W).alloc (ak _) _) (ak _) (Whole.made W _ _)) (b _ _ ?_);generalize W.heap.size=F;go_simp;clear a b K W;refine gL Kn.le_refl Kn.le_trans 31 rfl al (λK b=> ?_);refine jl al ⟨(.int .i64 R),λA d W a=> ?_,?_⟩
 .refine cZ (f:=129) (args:=(#[.slice (some ⟨F,0,none⟩) 1 1,.pointer (some ⟨w.heap.size+1,0,none⟩)])) fN ?_;rw[aj.o];refine(S.o F 1 (w.heap.size+1) [98] an W (λj x B=> ?_) ((a.base.cell (p:=⟨w.heap.size+1,0,none⟩) r.o.2).trans U.o)).mono ?_
  .have D:=Kn.C.at_ a (d _ bj) (g:=F) (t:=9) (cs:= #[.string ⟨#[98]⟩]);rw[aW,D.at_]
   have E:((#[.string ⟨#[98]⟩]:Array Value)[j]?)=((wR [98])[j]?).map Value.string:=by
    unfold wR;rw[show(#[.string ⟨#[98]⟩]:Array Value)=(((wR [98]).map Value.string).toArray)from rfl,eg,bi]
    rfl
   rw[E,B];rfl
  .rintro e W' ⟨rfl,rfl⟩;exact⟨rfl,a⟩
 go_simp;refine b _ ?_;clear b K;refine tp Kn.le_refl Kn.le_trans 32 (.bool true) ?_;refine tp Kn.le_refl Kn.le_trans 33 (.bool true) ?_;refine tp Kn.le_refl Kn.le_trans 34 (.bool true) ?_;refine DK al ?_;intro W a;have ao:=aa (B0.o.trans (a.base.mono B0.o.size));clear a
 go_wp2_with fail
 go_ret
 exact⟨rfl,ao.o⟩
def Ei(b:Int):Bool:=decide (33<=b)&&decide (b<=126)&&decide (b≠45)
def py(s:ByteArray):Bool:=(bI s).all Ei&&decide (1<=s.size/\s.size<=64)
theorem Tt(s:bB)(G:s.size<=1000000000)(w:ay):
 Calls prog 37 #[.string s] w λe A=>e= .returned (.bool (py s))/\A=w:=by
 obtain⟨nb,m⟩:=aP (py s);have h:=aa m;rw[<-m];clear m
 go_enter func37,ntmps37
 go_wp2_with fail
 go_loopw [6] (λi wr=> ∃k:Nat,k<=s.size/\i= .int .i64 k/\wr=w/\Hid (((bI s).take k).all Ei=true)) (λi _=>s.size -(intOf i).toNat)
 case atStart=>exact⟨0,ce _,rfl,rfl,aa rfl⟩
 case round=>
  obtain⟨k,H,rfl,rfl,l⟩:=hrel
  by_cases t:k<s.size
  .have I:(k:Int)<s.size:=af;have f:=Dc s k t;obtain⟨b,x⟩:∃b:Nat,b=s[k].toNat:=⟨_,rfl⟩;have B:=aa f
   by_cases c:Ei ((s[k].toNat:Nat):Int)=true
   .have u:=aa (uW f l.out c);have a:33<=s[k].toNat/\s[k].toNat<=126/\s[k].toNat≠45:=by unfold Ei at c;simp at c;omega
    have y:¬((s[k].toNat:Nat):Int)<33:=af;have z:¬(126:Int)<((s[k].toNat:Nat):Int):=af;have C:(((s[k].toNat:Nat):Int)==45)=false:=by have:=a.2.2;simp;omega
    clear f c a x
    go_wp2_with fail
    go_roundw
    case rel=>exact⟨k+1,af,by go_num,by first|rfl|trivial,u.o⟩
    case measure=>simp[intOf];omega
   .have g:=aa (by rw[h.o];unfold py;rw[LW f (ek c)];rfl:nb=false)
    have a:s[k].toNat<33\/126<s[k].toNat\/s[k].toNat=45:=by
     by_cases o:s[k].toNat<33
     .exact .inl o
     .by_cases r:126<s[k].toNat
      .exact .inr (.inl r)
      .refine .inr (.inr ?_)
       by_cases D:s[k].toNat=45
       .exact D
       .exfalso;apply c;unfold Ei;simp;omega
    clear f c x
    by_cases o:s[k].toNat<33
    .have y:((s[k].toNat:Nat):Int)<33:=af;clear a o
     go_wp2_with fail
     go_ret
     exact⟨by rw[g.o];rfl,rfl⟩
    .have y:¬((s[k].toNat:Nat):Int)<33:=af
     by_cases r:126<s[k].toNat
     .have z:(126:Int)<((s[k].toNat:Nat):Int):=af;clear a o r
      go_wp2_with fail
      go_ret
      exact⟨by rw[g.o];rfl,rfl⟩
     .have z:¬(126:Int)<((s[k].toNat:Nat):Int):=af;have C:(((s[k].toNat:Nat):Int)==45)=true:=by simp;omega
      clear a o r
      go_wp2_with fail
      go_ret
      exact⟨by rw[g.o];rfl,rfl⟩
  .obtain rfl:k=s.size:=af;have j:(bI s).all Ei=true:=by have:=l.out;rwa[bL (by rw[aj];exact ak _)]at this
   by_cases n:s.size=0
   .have p:=aa (by rw[h.o];unfold py;rw[n,Bool.and_eq_false_iff];right;decide:nb=false)
    have v:s=⟨#[]⟩:=by
     obtain⟨d⟩:=s;congr 1;exact o6.1 n
    clear j n
    go_wp2_with fail
    go_ret
    exact⟨by rw[p.o];simp[v],rfl⟩
   .have E:=p8 n
    by_cases q:s.size<=64
    .have p:=aa (by rw[h.o];unfold py;rw[j,Bool.true_and,decide_eq_true_eq];omega:nb=true);have F:(s.size:Int)<=64:=af;clear j n q
     go_wp2_with fail
     go_ret
     exact⟨by rw[p.o];rfl,rfl⟩
    .have p:=aa (by rw[h.o];unfold py;rw[Bool.and_eq_false_iff];right;simp;omega:nb=false);have F:¬(s.size:Int)<=64:=af;clear j n q
     go_wp2_with fail
     go_ret
     exact⟨by rw[p.o];rfl,rfl⟩
structure pV where
 part:ByteArray
 more:Nat
 peer:ByteArray
 e:Option Nat
def fH:ByteArray:=⟨#[83,83,72,45,50,46,48,45]⟩
def Fg:ByteArray:=⟨#[83,83,72,45,49,46,57,57,45]⟩
def Ud:ByteArray:=⟨#[83,83,72,45]⟩
def iL:ByteArray:=⟨#[13,10]⟩
def preB(s p:ByteArray):ByteArray:=⟨(Lib.trimPrefix s.data.toList p.data.toList).toArray⟩
def hasB(s p:ByteArray):Bool:=Lib.hasPrefix s.data.toList p.data.toList
def me(s p:ByteArray):ByteArray:=⟨(Lib.cut s.data.toList p.data.toList).1.toArray⟩
def Ci(s p:ByteArray):ByteArray:=⟨(Lib.cut s.data.toList p.data.toList).2.1.toArray⟩
def zr(s p:ByteArray):Bool:=(Lib.cut s.data.toList p.data.toList).2.2
def LG(s:ByteArray):Bool:=
 if hasB s fH then py (me (preB s fH) ⟨#[32]⟩)else hasB s Fg&&py (me (preB s Fg) ⟨#[32]⟩)
def kv(h:pV)(s:ByteArray):pV×Option Nat:=
 if Lib.contains s.data.toList [0]then(h,some 2)
 else if hasB s Ud then(if LG s then({h with peer:=s},none)else(h,some 11))
 else if h.more=0 then(h,some 11)else({h with more:=h.more -1},none)
def lP:Nat->pV->ByteArray->pV×ByteArray×Option Nat
 |0,h,s=>(h,s,none)
 |n+1,h,s=>
  if h.peer.size≠0\/h.e≠none then(match h.e with|some i=>(h,⟨#[]⟩,some i)|none=>(h,s,none))
  else if 255<=(h.part++me s ⟨#[10]⟩).size then({h with part:=h.part++me s ⟨#[10]⟩,e:=some 3},⟨#[]⟩,some 3)
  else if zr s ⟨#[10]⟩=false then({h with part:=h.part++me s ⟨#[10]⟩},⟨#[]⟩,none)
  else
   let r:=kv {h with part:=h.part++me s ⟨#[10]⟩} ⟨(Lib.trimSuffix (h.part++me s ⟨#[10]⟩).data.toList [13]).toArray⟩
   lP n {r.1 with part:=⟨#[]⟩,e:=r.2} (Ci s ⟨#[10]⟩)
def eV(E:Nat->Addr):Option Nat->Value
 |none=> .nilIface
 |some i=>bM (E i)
def nk(E:Nat->Addr)(h:pV):Array Value:= #[.string h.part,.int .i64 h.more,.string h.peer,eV E h.e]
def iA(E:Nat->Addr)(w:World)(g:Nat)(h:pV):Prop:=Whole w g 102 (nk E h)
end Go.Proofs.P
namespace Go.Spk
theorem pe{T e}{B b}{a}{w c}(h:Lib.IsBuilder T e B b a w)(d:Below w.heap.size w c):Lib.IsBuilder T e B b a c:=by
 have key:∀p,Lib.BuilderAt T e B b p a w->Lib.BuilderAt T e B b p a c:=by
  rintro p ⟨i,v,f,g,j⟩;exact⟨i,v,(d.block b (Whole.inside (cs:= #[p,v]) f)).trans f,World.ownsRow.kept (w:=w) g (bR d (some w.heap.size)) (.inr (λe=>by have:=(World.ownsRow.lt (w:=w) g w.heap.size e).2;omega)),j⟩
 rcases h with h|h
 .exact .inl (key _ h)
 .exact .inr (key _ h)
def eP(b a:List Int)(n:Nat):List Int:=(Dz b (a++ [1])).take n
theorem np(a l:aR):(Dz a l).length=32:=eG _ _
theorem ya(a l:aR):∀z∈Dz a l,0<=z/\z<=255:=kY _ _
end Go.Spk
namespace Go.Proofs.P
attribute [local go_sem ↓] iw iy
attribute [local go_sem] cr cD
theorem Co(key a:bB)(m:key.size<=64)(hl:a.size<=1000)(n:Nat)(aE:1<=n)(hn:n<=32)(w:ay)(X:dt w)(hf:dJ w):
 Calls prog 63 #[.string key,.string a,.int .i64 n] w λe w'=>e= .returned (.string (strOfNums (eP (bI key) (bI a) n)))/\Below w.heap.size w w':=by
 obtain⟨R,B⟩:=aP (Dz (bI key) (bI a++ [1]));have f:=aa (by rw[B];exact np _ _:R.length=32);have o:=aa (by rw[B];exact ya _ _:∀z∈R,0<=z/\z<=255)
 have s:gI [⟨#[]⟩,a,⟨#[1]⟩]=bI a++ [1]:=by
  unfold gI;simp only[List.flatMap_cons,List.flatMap_nil]
  rfl
 have C:=aa (λv W (h:ee W v [⟨#[]⟩,a,⟨#[1]⟩]) (X:dt W) (hf:dJ W)=>J5 key m v [⟨#[]⟩,a,⟨#[1]⟩] W h bj bj (by rw[s,am,aj];simp;omega) X hf);rw[s,<-B]at C
 have D:=aa (show strOfNums (eP (bI key) (bI a) n)=(strOfNums R).extract 0 n by
  unfold eP;rw[<-B,<-fq ((strOfNums R).extract 0 n),og,cJ o.o,nT])
 rw[D.o];obtain⟨S,Y⟩:=aP (strOfNums R);have E:S.size=32:=by rw[Y,<-aj,cJ o.o,f.o]
 rw[<-Y];have t:=aa Y;have F:=aa E;have HW:=aa X;have HF:=aa hf;clear B s X hf D Y E;have aB:min (n:Int) 8160=n:=af;have aC:max (0:Int) n=n:=af;have n0:(0:Int)<n:=af;have aF:(n:Int)<=32:=af
 go_enter func63,ntmps63
 go_upto_region 3 with(fail)
 refine aU (λW=>Below w.heap.size w W/\Lib.IsBuilder 154 5 w.heap.size w.heap.size [] W) ⟨by go_grown,Lib.fresh_isBuilder _ _ _⟩ ?_;intro W0 ⟨G,kL⟩;have ab:=aa G;have ad:=aa kL;clear G kL
 go_wp2_with fail
 go_loopw [8,9] (λH i W=>Below w.heap.size w W/\((H= .string ⟨#[]⟩/\i= .int .i64 1/\Lib.IsBuilder 154 5 w.heap.size w.heap.size [] W)\/(i= .int .i64 2/\Lib.IsBuilder 154 5 w.heap.size w.heap.size (R.map (Value.int .u8)) W))) (λ_ i _=>(2 -intOf i).toNat)
 case atStart=>exact⟨ab.o,.inl ⟨rfl,rfl,ad.o⟩⟩
 case round=>
  obtain⟨Z,⟨rfl,rfl,I⟩|⟨rfl,I⟩⟩:=hrel
  .have J:=aa Z;have K:=aa I;clear Z I
   go_wp2_with fail
   refine(Builder_Len w.heap.size w.heap.size [] _ K.o).mono ?_;rintro e j ⟨rfl,rfl⟩
   have c:=bv (P:=prog) (j.alloc (.cells #[.int .u8 1] 5)) 99 5 underlying99 underlying5 j.heap.size 0 1 1 [1] rfl (λq hq=>by
    obtain rfl:q=0:=af;rw[aW,(Whole.made j 5 #[.int .u8 1]).at_];rfl) 9 underlying9
   rw[show strOfNums [1]=⟨#[1]⟩from rfl]at c;have b:=(J.o.alloc J.o.size (.cells #[.int .u8 1] 5));have p:=b.alloc b.size (.cells #[.string ⟨#[]⟩,.string a,.string ⟨#[1]⟩] 9);have L:ee ((j.alloc (.cells #[.int .u8 1] 5)).alloc (.cells #[.string ⟨#[]⟩,.string a,.string ⟨#[1]⟩] 9)) (.slice (some ⟨(j.alloc (.cells #[.int .u8 1] 5)).heap.size,0,none⟩) 3 3) [⟨#[]⟩,a,⟨#[1]⟩]:=ee.j (l:= [⟨#[]⟩,a,⟨#[1]⟩]) (Whole.made _ 9 _);have M:=aa (C.o _ _ L (HW.o.below p) (HF.o.below p));have g:=aa p;have N:=aa (bj:(j.alloc (.cells #[.int .u8 1] 5)).heap.size=j.heap.size+1);have r:=aa (show Lib.IsBuilder 154 5 w.heap.size w.heap.size [] ((j.alloc (.cells #[.int .u8 1] 5)).alloc (.cells #[.string ⟨#[]⟩,.string a,.string ⟨#[1]⟩] 9))from pe K.o (((aw j.heap.size j).alloc (ak _) _).alloc bj _));clear b p L;have u:=M.o;rw[N.o]at u;have O:=aa u;clear u
   go_wp2_with fail
   refine O.o.mono ?_;rintro e x ⟨rfl,b⟩;have d:=aa (g.o.trans (b.mono g.o.size));have Q:=aa (pe r.o b);clear b O M r g c;have s1:(prog.info? 22).map (·.size)=some (ai .u8 R).size:=by rw[ag,f.o];exact gE
   go_upto_region 8 with(refine cQ rfl 22 (.tmp 10) (.tmp 27) rfl x.heap.size (ai .u8 R) rfl rfl 22 _ (dR _ _) s1 (by rw[ag,f.o];rfl) (fL _ _) ?_)
   have al:w.heap.size<x.heap.size:=by
    rcases Q.o with h|h<;>exact h.lt
   refine aU (λW=>Below w.heap.size w W/\Lib.IsBuilder 154 5 w.heap.size w.heap.size [] W/\Whole W x.heap.size 22 (ai .u8 R)) ⟨(d.o.alloc d.o.size _).grown (bW _ _ _) (by simp;exact bu d.o.size) (λk m=>by injection m with m;subst m;exact d.o.size),pe Q.o ((aw x.heap.size x).alloc (ak _) _ |>.grown (bW _ _ _) bj (λk m=>by injection m with m;subst m;exact ak _)),Whole.row (Whole.new (cs':=_) rfl rfl)⟩ ?_;intro W3 ⟨G,kL,kR⟩;have g:=aa G;have r:=aa kL;have c:=bv (P:=prog) W3 99 5 underlying99 underlying5 x.heap.size 0 32 32 R f.o (ey W3 _ _ R 32 kR f.o) 9 underlying9;rw[<-t.o]at c;have U:=aa (by rw[F.o];decide:([]:List Value).length+S.size<=140737488355328);clear G kL kR s1 al
   go_wp2_with fail
   refine(xH w.heap.size w.heap.size [] S W3 r.o U.o g.o.size).mono ?_;rintro e W4 ⟨rfl,y,V⟩;have an:=aa (g.o.trans V)
   have ao:=aa (show Lib.IsBuilder 154 5 w.heap.size w.heap.size (R.map (Value.int .u8)) W4 by
    have h:Lib.strCells S=R.map (Value.int .u8):=by
     have h1:Lib.strCells S=(bI S).map (Value.int .u8):=by
      unfold bI;rw[List.map_map]
      rfl
     rw[h1,t.o,cJ o.o]
    rw[eo,h]at y;exact .inr y)
   clear y V c
   go_wp2_with fail
   go_roundw
   case rel=>exact⟨an.o,.inr ⟨by go_num,ao.o⟩⟩
   case measure=>simp[intOf]
  .have J:=aa Z;have K:=aa I;clear Z I
   go_wp2_with fail
   refine(Builder_Len w.heap.size w.heap.size _ _ K.o).mono ?_;rintro e j ⟨rfl,rfl⟩;rw[aM,f.o];have A:=K.o;rw[pD o.o]at A;have av:=aa A;clear A;have aG:(n:Int)<=S.size:=by rw[F.o];omega
   go_wp2_with fail
   refine(Builder_String_any w.heap.size w.heap.size _ _ av.o J.o.size).mono ?_;rintro e x ⟨rfl,b⟩;have ax:=aa (J.o.trans b);have az:(ByteArray.mk (R.map λn=>UInt8.ofNat n.toNat).toArray)=S:=t.o.symm;rw[az];clear b
   go_wp2_with fail
   go_ret
   exact⟨rfl,ax.o⟩
end Go.Proofs.P
namespace Go.Proofs.P
attribute [local go_sem ↓] Go.wp_at_zero Go.wp_at_succ
theorem AD{s:bB}(h:s.size=0):s=⟨#[]⟩:=by
 obtain⟨d⟩:=s;congr 1;exact o6.1 h
theorem iA.below{E:gn}{w b:ay}{g:Nat}{h:pV}(a:iA E w g h)(c:Below w.heap.size w b):iA E b g h:=Whole.below a c (Whole.inside a)
theorem O2(E:gn)(g:Nat)(h:pV)(s:bB)(Y:s.size<=1000000000)(J:Int)(w:ay)(K:iA E w g h)(k:w.cell? ⟨11,0,none⟩=some (bM (E 11)))(A:w.cell? ⟨24,0,none⟩=some (.int .i64 J)):
 Calls prog 136 #[.pointer (some ⟨g,0,none⟩),.string s] w λe i=>e= .returned (eV E (if LG s then none else some 11))/\iA E i g (if LG s then{h with peer:=s}else h)/\w.grownBy i (some g):=by
 have R:Hid (∀W,Calls prog 176 #[.string s,.string ⟨#[83,83,72,45,50,46,48,45]⟩] W λe i=>e= .returned (.tuple #[.string (preB s fH),.bool (hasB s fH)])/\i=W):=aa (λW=>strings_CutPrefix s ⟨#[83,83,72,45,50,46,48,45]⟩ W);have S:Hid (∀W,Calls prog 176 #[.string s,.string ⟨#[83,83,72,45,49,46,57,57,45]⟩] W λe i=>e= .returned (.tuple #[.string (preB s Fg),.bool (hasB s Fg)])/\i=W):=aa (λW=>strings_CutPrefix s ⟨#[83,83,72,45,49,46,57,57,45]⟩ W)
 have j:∀p,(preB s p).size<=s.size:=λp=>by
  unfold preB;show(Lib.trimPrefix s.data.toList p.data.toList).toArray.size<=_;rw[dH];unfold Lib.trimPrefix
  split
  .rw[bK];simp
  .simp
 have B:Hid (∀t:ByteArray,t.size<=s.size-> ∀W,Below w.heap.size w W->Calls prog 103 #[.string t,.string ⟨#[32]⟩] W λe i=>(∃x y,e= .returned (.tuple #[.string (me t ⟨#[32]⟩),x,y]))/\Below w.heap.size w i):=aa (λt U W L=>by
  refine(strings_Cut t ⟨#[32]⟩ J W af ((L.cell (aH A)).trans A)).mono ?_;rintro e i ⟨rfl,n,rfl⟩;exact⟨⟨_,_,rfl⟩,bA L n⟩)
 have r:∀t:ByteArray,(me t ⟨#[32]⟩).size<=t.size:=λt=>by
  unfold me;show(Lib.cut t.data.toList [32]).1.toArray.size<=_;rw[dH];unfold Lib.cut
  split<;>simp
  omega
 have M:Hid (∀t:ByteArray,t.size<=s.size-> ∀W,Calls prog 37 #[.string (me t ⟨#[32]⟩)] W λe i=>e= .returned (.bool (py (me t ⟨#[32]⟩)))/\i=W):=aa (λt U W=>Tt _ (by have:=r t;omega) W);have N:=aa (j fH);have C:=aa (j Fg);have D:=aa K;have q:=aa k;obtain⟨V,m⟩:=aP (LG s);have a:=aa (show V=if hasB s fH then py (me (preB s fH) ⟨#[32]⟩)else hasB s Fg&&py (me (preB s Fg) ⟨#[32]⟩)from m);rw[<-m];generalize preB s fH=F at*;generalize preB s Fg=z at*;clear j r K k A m
 go_enter func136,ntmps136
 go_wp2_with fail
 refine(R.o _).mono ?_;rintro e w1 ⟨rfl,rfl⟩;cases O:hasB s fH
 .rw[O]at a
  go_wp2_with fail
  refine(S.o _).mono ?_;rintro e w2 ⟨rfl,rfl⟩;cases P:hasB s Fg
  .rw[P]at a;have d:=a.o;simp at d;obtain rfl:=d;have u:=aa (B.o z C.o)
   go_wp2_with fail
   refine(u.o _ (aw _ _)).mono ?_;rintro e Q ⟨⟨x,y,rfl⟩,f⟩;have o:=aa f;have c:=aa (D.o.below f);have k:=(f.cell (p:=⟨11,0,none⟩) (aH q.o)).trans q.o;clear f;unfold bM at k
   go_wp2_with fail
   go_ret
   exact⟨rfl,c.o,bR o.o _⟩
  .rw[P]at a;have u:=aa (B.o z C.o);have G:=aa (M.o z C.o)
   go_wp2_with fail
   refine(u.o _ (aw _ _)).mono ?_;rintro e Q ⟨⟨x,y,rfl⟩,f⟩;have o:=aa f;have c:=aa (D.o.below f);have k:=(f.cell (p:=⟨11,0,none⟩) (aH q.o)).trans q.o;clear f
   go_wp2_with fail
   refine(G.o _).mono ?_;rintro e l ⟨rfl,rfl⟩;cases v:py (me z ⟨#[32]⟩)
   .rw[v]at a;have d:=a.o;simp at d;obtain rfl:=d;unfold bM at k
    go_wp2_with fail
    go_ret
    exact⟨rfl,c.o,bR o.o _⟩
   .rw[v]at a;have d:=a.o;simp at d;obtain rfl:=d;have b:Whole l g 102 (nk E h):=c.o;have c2:l.cell? ⟨g,2,none⟩=some (.string h.peer):=by rw[b.at_];rfl
    have X:=b.free 2;have H:=aa (show iA E (l.setCell ⟨g,2,none⟩ (.string s)) g {h with peer:=s}from b.stored 2 (.string s));have I:=aa (aZ (bR o.o (some g)) (aY (w:=l) ⟨g,2,none⟩ rfl (.string s)));clear b k
    go_wp2_with fail
    go_ret
    exact⟨rfl,H.o,I.o⟩
 .rw[O]at a;have u:=aa (B.o F N.o);have G:=aa (M.o F N.o)
  go_wp2_with fail
  refine(u.o _ (aw _ _)).mono ?_;rintro e Q ⟨⟨x,y,rfl⟩,f⟩;have o:=aa f;have c:=aa (D.o.below f);have k:=(f.cell (p:=⟨11,0,none⟩) (aH q.o)).trans q.o;clear f
  go_wp2_with fail
  refine(G.o _).mono ?_;rintro e l ⟨rfl,rfl⟩;cases v:py (me F ⟨#[32]⟩)
  .rw[v]at a;have d:=a.o;simp at d;obtain rfl:=d;unfold bM at k
   go_wp2_with fail
   go_ret
   exact⟨rfl,c.o,bR o.o _⟩
  .rw[v]at a;have d:=a.o;simp at d;obtain rfl:=d;have b:Whole l g 102 (nk E h):=c.o;have c2:l.cell? ⟨g,2,none⟩=some (.string h.peer):=by rw[b.at_];rfl
   have X:=b.free 2;have H:=aa (show iA E (l.setCell ⟨g,2,none⟩ (.string s)) g {h with peer:=s}from b.stored 2 (.string s));have I:=aa (aZ (bR o.o (some g)) (aY (w:=l) ⟨g,2,none⟩ rfl (.string s)));clear b k
   go_wp2_with fail
   go_ret
   exact⟨rfl,H.o,I.o⟩
theorem Y6(E:gn)(g:Nat)(h:pV)(s:bB)(F:s.size<=1000000000)(hm:h.more<=1000)(t:Int)(w:ay)(u:iA E w g h)(n:w.cell? ⟨2,0,none⟩=some (bM (E 2)))(j:w.cell? ⟨11,0,none⟩=some (bM (E 11)))(k:w.cell? ⟨24,0,none⟩=some (.int .i64 t)):
 Calls prog 104 #[.pointer (some ⟨g,0,none⟩),.string s] w λe f=>e= .returned (eV E (kv h s).2)/\iA E f g (kv h s).1/\w.grownBy f (some g):=by
 have l:=aa (λW (d:Below w.heap.size w W)=>O2 E g h s F t W (u.below d) ((d.cell (aH j)).trans j) ((d.cell (aH k)).trans k))
 have G:Hid (∀W,Below w.heap.size w W->Calls prog 135 #[.string s,.string ⟨#[0]⟩] W λe f=>e= .returned (.bool (Lib.contains s.data.toList [0]))/\Below w.heap.size w f):=aa (λW z=>by
  refine(strings_Contains s ⟨#[0]⟩ t W af ((z.cell (aH k)).trans k)).mono ?_;rintro e f ⟨rfl,rfl⟩;exact⟨rfl,z⟩)
 have H:Hid (∀W,Calls prog 122 #[.string s,.string ⟨#[83,83,72,45]⟩] W λe f=>e= .returned (.bool (hasB s Ud))/\f=W):=aa (λW=>strings_HasPrefix s ⟨#[83,83,72,45]⟩ W);have I:=aa u;have A:=aa n;have B:=aa j;obtain⟨R,v⟩:=aP (kv h s);rw[<-v];have o:=aa v;clear u n j k v
 go_enter func104,ntmps104
 go_wp2_with fail
 refine(G.o _ (aw _ _)).mono ?_;rintro e w1 ⟨rfl,d⟩;have m:=aa d;have i:=aa (I.o.below d);have n:=(d.cell (p:=⟨2,0,none⟩) (aH A.o)).trans A.o;have j:=(d.cell (p:=⟨11,0,none⟩) (aH B.o)).trans B.o;unfold bM at n j;clear d;cases q:Lib.contains s.data.toList [0]
 .go_wp2_with fail
  refine(H.o _).mono ?_;rintro e w2 ⟨rfl,rfl⟩;cases x:hasB s Ud
  .have b:Whole w2 g 102 (nk E h):=i.o;have c1:w2.cell? ⟨g,1,none⟩=some (.int .i64 h.more):=by rw[b.at_];rfl
   have Q:=b.free 1
   by_cases r:h.more=0
   .have a:=aa (by rw[o.o];unfold kv;rw[q,x,aq bj,aq bj,aJ r]:R=(h,some 11));rw[r]at c1;clear b
    go_wp2_with fail
    go_ret
    exact⟨by rw[a.o];rfl,by rw[a.o];exact i.o,bR m.o _⟩
   .have a:=aa (by rw[o.o];unfold kv;rw[q,x,aq bj,aq bj,aq r]:R=({h with more:=h.more -1},none));have J:((h.more:Nat):Int) -1=((h.more -1:Nat):Int):=af;have K:(((h.more:Nat):Int)==0)=false:=by simp;omega
    have L:((h.more:Nat):Int)<=1000:=af;have M:=aa (show iA E (w2.setCell ⟨g,1,none⟩ (.int .i64 ((h.more -1:Nat):Int))) g {h with more:=h.more -1}from b.stored 1 _);have N:=aa (aZ (bR m.o (some g)) (aY (w:=w2) ⟨g,1,none⟩ rfl (.int .i64 ((h.more -1:Nat):Int))));clear b r hm
    go_wp2_with fail
    go_ret
    exact⟨by rw[a.o];rfl,by rw[a.o];exact M.o,N.o⟩
  .have a:=aa (by rw[o.o];unfold kv;rw[q,x,aq bj,aJ rfl]:R=(if LG s then({h with peer:=s},none)else(h,some 11)));cases y:LG s
   all_goals
    have c:=aa (l.o);rw[y]at a c
    go_wp2_with fail
    refine(c.o _ m.o).mono ?_;rintro e S ⟨rfl,C,D⟩;have O:=aa C;have P:=aa (aZ (bR m.o (some g)) D);clear C D l c
    go_wp2_with fail
    go_ret
    exact⟨by rw[a.o];rfl,by rw[a.o];exact O.o,P.o⟩
 .have a:=aa (by rw[o.o];unfold kv;rw[q,aJ rfl]:R=(h,some 2))
  go_wp2_with fail
  go_ret
  exact⟨by rw[a.o];rfl,by rw[a.o];exact i.o,bR m.o _⟩
theorem xV(E:gn)(g:Nat)(h:pV)(w:ay)(c:iA E w g h):
 Calls prog 81 #[.pointer (some ⟨g,0,none⟩)] w λe d=>e= .returned (.bool (decide (h.peer.size≠0)))/\d=w:=by
 have a:Whole w g 102 (nk E h):=c;have c2:w.cell? ⟨g,2,none⟩=some (.string h.peer):=by rw[a.at_];rfl
 clear c a
 by_cases b:h.peer.size=0
 .have f:h.peer=⟨#[]⟩:=AD b;rw[f]at c2⊢
  go_enter func81,ntmps81
  go_wp2_with fail
  go_ret
  exact⟨rfl,rfl⟩
 .rw[show decide (h.peer.size≠0)=true by simpa using b];have i:=p8 b;clear b
  go_enter func81,ntmps81
  go_wp2_with fail
  go_ret
  exact⟨by first|rfl|simp,rfl⟩
theorem Sc(E:gn)(g:Nat)(h:pV)(w:ay)(b:iA E w g h):
 Calls prog 149 #[.pointer (some ⟨g,0,none⟩)] w λe c=>e= .returned (.string h.peer)/\c=w:=by
 have a:Whole w g 102 (nk E h):=b;have c2:w.cell? ⟨g,2,none⟩=some (.string h.peer):=by rw[a.at_];rfl
 clear b a
 go_enter func149,ntmps149
 go_wp2_with fail
 go_ret
 exact⟨rfl,rfl⟩
theorem Q3(E:gn)(a:Bool)(w:ay):
 Calls prog 17 #[.bool a] w λe b=>e= .returned (.pointer (some ⟨w.heap.size,0,none⟩))/\iA E b w.heap.size ⟨⟨#[]⟩,if a then 16 else 0,⟨#[]⟩,none⟩/\b=w.alloc (.cells (nk E ⟨⟨#[]⟩,if a then 16 else 0,⟨#[]⟩,none⟩) 102):=by
 cases a
 all_goals
  go_enter func17,ntmps17
  go_wp2_with fail
  go_ret
  exact⟨rfl,Whole.made w _ _,rfl⟩
theorem N5(s:bB)(c:s.size<=1000)(h:py s=true)(w:ay):
 Calls prog 16 #[.string s] w λe b=>e= .returned (.tuple #[.string (fH++s++iL),.nilIface])/\b=w:=by
 have a:=aa (Tt s af w);rw[h]at a;have d:fH.size+s.size<=9223372036854775807:=by have:fH.size=8:=rfl;omega
 have f:(fH++s).size+iL.size<=9223372036854775807:=by have:fH.size=8:=rfl;have:iL.size=2:=rfl;simp;omega
 unfold fH iL at*;clear h
 go_enter func16,ntmps16
 go_wp2_with fail
 refine a.o.mono ?_;rintro e w1 ⟨rfl,rfl⟩
 go_wp2_with fail
 go_ret2
 exact⟨rfl,rfl⟩
end Go.Proofs.P
namespace Go.Spk
def ZM:Value->Nat
 | .string s=>s.size
 |_=>0
def oI(w:World)(a:Addr):Nat:=match w.cell? a with
 |some .nilIface=>1
 |_=>0
end Go.Spk
namespace Go.Proofs.P
attribute [local go_sem ↓] Go.wp_at_zero Go.wp_at_succ
theorem NS(s:bB)(h:zr s ⟨#[10]⟩=true):(Ci s ⟨#[10]⟩).size+1<=s.size:=by
 unfold zr at h;unfold Ci;show(Lib.cut s.data.toList [10]).2.1.toArray.size+1<=_;rw[dH];have a:(Lib.cut s.data.toList [10]).2.2=true:=h;unfold Lib.cut at a⊢
 split
 .rename_i b;have c:=Lib.index_room _ _ b;have d:s.size=s.data.toList.length:=Lib.size_eq s;show(List.drop _ _).length+1<=_;rw[bK];simp only[List.length_cons,List.length_nil]at c⊢;omega
 .rename_i b;rw[aq b]at a;cases a
theorem NR(s:bB):(me s ⟨#[10]⟩).size<=s.size:=by
 unfold me;show(Lib.cut s.data.toList [10]).1.toArray.size<=_;rw[dH];have a:s.size=s.data.toList.length:=Lib.size_eq s;rw[a];unfold Lib.cut
 split
 .show(List.take _ _).length<=_;rw[aO];omega
 .exact ak _
theorem zE(s:bB)(p:List UInt8):(ByteArray.mk (Lib.trimSuffix s.data.toList p).toArray).size<=s.size:=by
 show(Lib.trimSuffix s.data.toList p).toArray.size<=_;rw[dH];have a:s.size=s.data.toList.length:=Lib.size_eq s;rw[a];unfold Lib.trimSuffix
 split
 .rw[aO];omega
 .exact ak _
theorem UW(E:gn)(g:Nat)(h:pV)(t:bB)(ht:t.size<=1000000)(hp:h.part.size<=1000000)(hm:h.more<=1000)(mx:Int)(w:ay)(hA:iA E w g h)(cB:w.cell? ⟨3,0,none⟩=some (bM (E 3)))(cF:w.cell? ⟨2,0,none⟩=some (bM (E 2)))(cV:w.cell? ⟨11,0,none⟩=some (bM (E 11)))(cM:w.cell? ⟨24,0,none⟩=some (.int .i64 mx))(hg:30<=g):
 Calls prog 78 #[.pointer (some ⟨g,0,none⟩),.string t] w λe N=>e= .returned (.tuple #[.string (lP (t.size+1) h t).2.1,eV E (lP (t.size+1) h t).2.2])/\iA E N g (lP (t.size+1) h t).1/\w.grownBy N (some g):=by
 have HB:=aa cB;have HF:=aa cF;have HV:=aa cV;have HM:=aa cM;have HA:=aa hA;have A:=aa hg;have P:=aa (show h.part.size<=1000000/\h.more<=1000/\t.size<=1000000 from⟨hp,hm,ht⟩);obtain⟨R,hR⟩:=aP (lP (t.size+1) h t);rw[<-hR];have HR:=aa hR;clear hA cB cF cV cM hR hp hm ht hg
 go_enter func78,ntmps78
 go_wp2_with fail
 go_loopw [1] (λx W=> ∃(k:Nat) (c:pV) (s:ByteArray),x= .string s/\s.size<=k/\Hid (R=lP (k+1) c s)/\Hid ((c.e=none->c.part.size<=1000000)/\c.more<=1000/\s.size<=1000000)/\iA E W g c/\w.grownBy W (some g)) (λx W=>2*ZM x+oI W ⟨g,3,none⟩)
 case atStart=>exact⟨t.size,h,t,rfl,Nat.le_refl _,aa HR.o,aa ⟨λ_=>P.o.1,P.o.2⟩,HA.o,World.grownBy.refl _ _⟩
 case round=>
  obtain⟨k,c,s,rfl,hk,z,l,kA,kG⟩:=hrel;have Q:=aa kG;have KA:=aa kA;have S:=aa hk;have O:=aa (xV E g c wr kA);have D:Whole wr g 102 (nk E c):=kA;have c0:wr.cell? ⟨g,0,none⟩=some (.string c.part):=by rw[D.at_];rfl
  have c3:wr.cell? ⟨g,3,none⟩=some (eV E c.e):=by rw[D.at_];rfl
  clear kA kG D hk
  by_cases B:c.peer.size=0
  .rw[show decide (c.peer.size≠0)=false by simpa using B]at O;cases u:c.e with
   |some i=>
    have p:=aa (show R=(c,⟨#[]⟩,some i) by
     rw[z.out];show(if c.peer.size≠0\/c.e≠none then _ else _)=_;rw[u,if_pos (.inr bj)])
    rw[u]at c3;unfold eV bM at c3;clear B u c0
    go_wp2_with fail
    refine O.o.mono ?_;rintro e w2 ⟨rfl,rfl⟩
    go_wp2_with fail
    go_region
    all_goals
     go_wp2_with fail
     go_ret2
     exact⟨by rw[p.o];rfl,by rw[p.o];exact KA.o,iq Q.o⟩
   |none=>
    rw[u]at c3;have HN:=aa (by unfold oI;rw[c3];rfl:oI wr ⟨g,3,none⟩=1);have d:∀{b o:Nat} {v:Value},w.cell? ⟨b,o,none⟩=some v->b≠g->wr.cell? ⟨b,o,none⟩=some v:=λU hb=>(World.cell?_of_block (Q.o.block _ (block_lt_of_cell U) (bE hb))).trans U;have ao:=aa (show Calls prog 103 #[.string s,.string ⟨#[10]⟩] wr λe N=>e= .returned (.tuple #[.string (me s ⟨#[10]⟩),.string (Ci s ⟨#[10]⟩),.bool (zr s ⟨#[10]⟩)])/\ ∃n,N=wr.drewN n from strings_Cut s ⟨#[10]⟩ mx wr (dp l.out) (d HM.o (dp A.o)));have V:=aa (NR s);have X:=aa (NS s)
    have F:=aa (show R=(if 255<=(c.part++me s ⟨#[10]⟩).size then({c with part:=c.part++me s ⟨#[10]⟩,e:=some 3},⟨#[]⟩,some 3)
     else if zr s ⟨#[10]⟩=false then({c with part:=c.part++me s ⟨#[10]⟩},⟨#[]⟩,none)
     else lP k {(kv {c with part:=c.part++me s ⟨#[10]⟩} ⟨(Lib.trimSuffix (c.part++me s ⟨#[10]⟩).data.toList [13]).toArray⟩).1 with part:=⟨#[]⟩,e:=(kv {c with part:=c.part++me s ⟨#[10]⟩} ⟨(Lib.trimSuffix (c.part++me s ⟨#[10]⟩).data.toList [13]).toArray⟩).2} (Ci s ⟨#[10]⟩)) by
     rw[z.out];show(if c.peer.size≠0\/c.e≠none then _ else _)=_;rw[B,u,if_neg bj])
    generalize me s ⟨#[10]⟩=L at*;generalize Ci s ⟨#[10]⟩=Y at*;generalize zr s ⟨#[10]⟩=CB at*;have av:=aa (d HB.o (dp A.o));have ax:=aa (d HF.o (dp A.o));have az:=aa (d HV.o (dp A.o));have aB:=aa (d HM.o (dp A.o));have aU:c.part.size+L.size<=9223372036854775807:=by have:=l.out.1 u;have:=l.out.2;have:=V.o;omega
    have Z:=aa (show(c.part++L).size<=2000000 by have:=l.out.1 u;have:=l.out.2;have:=V.o;simp;omega);have aC:=aa (show c.peer.size=0/\c.e=none from⟨B,u⟩);have G:=aa HN.o;clear z B u d;unfold eV at c3
    go_wp2_with fail
    refine O.o.mono ?_;rintro e w2 ⟨rfl,rfl⟩
    go_wp2_with fail
    refine ao.o.mono ?_;rintro e w3 ⟨rfl,n,rfl⟩;have h3:Whole (w2.drewN n) g 102 (nk E c):=KA.o;have G3:=aa (tX Q.o n);have f0:=h3.free 0;have d0:(w2.drewN n).cell? ⟨g,0,none⟩=some (.string c.part):=c0;have H4:=aa (show iA E ((w2.drewN n).setCell ⟨g,0,none⟩ (.string (c.part++L))) g {c with part:=c.part++L}from h3.stored 0 _);have G4:=aa (aZ G3.o (aY (w:=w2.drewN n) ⟨g,0,none⟩ rfl (.string (c.part++L))));have m:∀{b o:Nat} {v:Value},w2.cell? ⟨b,o,none⟩=some v->b≠g->((w2.drewN n).setCell ⟨g,0,none⟩ (.string (c.part++L))).cell? ⟨b,o,none⟩=some v:=λU hb=>(World.cell?_of_block ((aY (w:=w2.drewN n) ⟨g,0,none⟩ rfl (.string (c.part++L))).block _ (block_lt_of_cell U) (bE hb))).trans U;have aE:=aa (m av.o (dp A.o));have aF:=aa (m ax.o (dp A.o));have aG:=aa (m az.o (dp A.o));have aK:=aa (m aB.o (dp A.o));clear h3 c0 c3 m
    by_cases f:255<=(c.part++L).size
    .have p:=aa (show R=lP (k+1) {c with part:=c.part++L,e:=some 3} s by
      rw[F.o,if_pos f];show _=(if c.peer.size≠0\/(some 3:Option Nat)≠none then _ else _);rw[if_pos (.inr bj)])
     have i1:(255:Int)<=(c.part++L).size:=af;have i2:(255:Int)<=(c.part.size:Int)+L.size:=by simp at f;omega
     have H:Whole ((w2.drewN n).setCell ⟨g,0,none⟩ (.string (c.part++L))) g 102 (nk E {c with part:=c.part++L}):=H4.o;have cB:=aE.o;have f3:=H.free 3;have d3:((w2.drewN n).setCell ⟨g,0,none⟩ (.string (c.part++L))).cell? ⟨g,3,none⟩=some .nilIface:=by rw[H.at_];show some (eV E c.e)=_;rw[aC.o.2];rfl
     have H5:=aa (show iA E (((w2.drewN n).setCell ⟨g,0,none⟩ (.string (c.part++L))).setCell ⟨g,3,none⟩ (bM (E 3))) g {c with part:=c.part++L,e:=some 3}from H.stored 3 _);have G5:=aa (aZ G4.o (aY (w:=(w2.drewN n).setCell ⟨g,0,none⟩ (.string (c.part++L))) ⟨g,3,none⟩ rfl (bM (E 3))));clear f H;unfold bM at*
     go_wp2_with fail
     go_roundw
     case rel=>exact⟨k,_,s,rfl,S.o,p,aa ⟨(λh=>by cases h),l.out.2.1,l.out.2.2⟩,H5.o,G5.o⟩
     case measure=>
      have h5:Whole (((w2.drewN n).setCell ⟨g,0,none⟩ (.string (c.part++L))).setCell ⟨g,3,none⟩ (bM (E 3))) g 102 (nk E {c with part:=c.part++L,e:=some 3}):=H5.o;have c3:(((w2.drewN n).setCell ⟨g,0,none⟩ (.string (c.part++L))).setCell ⟨g,3,none⟩ (bM (E 3))).cell? ⟨g,3,none⟩=some (bM (E 3)):=by rw[h5.at_];rfl
      have e1:=G.o;unfold bM at c3;rw[e1];unfold oI;rw[c3];show 2*s.size+0<2*s.size+1;omega
    .have i1:¬(255:Int)<=(c.part++L).size:=af;have i2:¬(255:Int)<=(c.part.size:Int)+L.size:=by simp at f;omega
     cases CB with
     |false=>
      have p:=aa (by rw[F.o,if_neg f,if_pos rfl]:R=({c with part:=c.part++L},⟨#[]⟩,none));clear f
      go_wp2_with fail
      go_ret2
      exact⟨by rw[p.o];rfl,by rw[p.o];exact H4.o,G4.o⟩
     |true=>
      have p:=aa (by rw[F.o,if_neg f,if_neg bj]:R=lP k {(kv {c with part:=c.part++L} ⟨(Lib.trimSuffix (c.part++L).data.toList [13]).toArray⟩).1 with part:=⟨#[]⟩,e:=(kv {c with part:=c.part++L} ⟨(Lib.trimSuffix (c.part++L).data.toList [13]).toArray⟩).2} Y);have ab:=X.o rfl;have H:Whole ((w2.drewN n).setCell ⟨g,0,none⟩ (.string (c.part++L))) g 102 (nk E {c with part:=c.part++L}):=H4.o;have aV:((w2.drewN n).setCell ⟨g,0,none⟩ (.string (c.part++L))).cell? ⟨g,0,none⟩=some (.string (c.part++L)):=by rw[H.at_];rfl
      have ad:=aa (λW=>strings_TrimSuffix (c.part++L) ⟨#[13]⟩ W (dp Z.o));have aR:=zE (c.part++L) [13];have I:=aa (Y6 E g {c with part:=c.part++L} ⟨(Lib.trimSuffix (c.part++L).data.toList [13]).toArray⟩ (dp Z.o) l.out.2.1 mx _ H4.o aF.o aG.o aK.o)
      have J:(kv {c with part:=c.part++L} ⟨(Lib.trimSuffix (c.part++L).data.toList [13]).toArray⟩).1.more<=1000:=by
       have:=l.out.2.1;unfold kv
       split
       .exact this
       .split
        .split<;>exact this
        .split
         .exact this
         .show c.more -1<=1000;omega
      obtain⟨C,aj⟩:∃r,r=kv {c with part:=c.part++L} ⟨(Lib.trimSuffix (c.part++L).data.toList [13]).toArray⟩:=⟨_,rfl⟩;rw[<-aj]at p I J;obtain⟨TS,K⟩:∃t:ByteArray,t=⟨(Lib.trimSuffix (c.part++L).data.toList [13]).toArray⟩:=⟨_,rfl⟩;rw[<-K]at I;have al:=aa (by rw[K];exact ad.o:∀W,Calls prog 105 #[.string (c.part++L),.string ⟨#[13]⟩] W λe N=>e= .returned (.string TS)/\N=W);have an:=aa J;have q:=aa ab;clear f H ad aR aj K J ab
      go_wp2_with fail
      refine(al.o _).mono ?_;rintro e w5 ⟨rfl,rfl⟩
      go_wp2_with fail
      refine I.o.mono ?_;rintro e M ⟨rfl,h6,g6⟩;have y:Whole M g 102 (nk E C.1):=h6;have f3:=y.free 3;have aX:=y.free 0;have e3:M.cell? ⟨g,3,none⟩=some (eV E C.1.e):=by rw[y.at_];rfl
      have e0:M.cell? ⟨g,0,none⟩=some (.string C.1.part):=by rw[y.at_];rfl
      have H7:=aa (show iA E ((M.setCell ⟨g,3,none⟩ (eV E C.2)).setCell ⟨g,0,none⟩ (.string ⟨#[]⟩)) g {C.1 with part:=⟨#[]⟩,e:=C.2}from(y.stored 3 _).stored 0 _);have G7:=aa (aZ G4.o (aZ g6 (aZ (aY (w:=M) ⟨g,3,none⟩ rfl (eV E C.2)) (aY ⟨g,0,none⟩ rfl (.string ⟨#[]⟩)))));clear h6 g6 y;obtain⟨a0,aS⟩:=C;dsimp only at*;cases aS with
      |none=>
       unfold eV bM at*
       go_wp2_with fail
       go_roundw
       case rel=>
        obtain⟨j,rfl⟩:∃j,k=j+1:=⟨k -1,by have:=q.o;have:=S.o;omega⟩;exact⟨j,_,Y,rfl,by have:=q.o;have:=S.o;omega,p,aa ⟨λ_=>Nat.zero_le _,an.o,by have:=q.o;have:=l.out.2.2;omega⟩,H7.o,G7.o⟩
       case measure=>
        have e1:=G.o;rw[e1];have h7:∀W a,oI W a<=1:=λW a=>by unfold oI;split<;>omega
        have h8:=h7 ((M.setCell ⟨g,3,none⟩ (.nilIface)).setCell ⟨g,0,none⟩ (.string ⟨#[]⟩)) ⟨g,3,none⟩;have h9:=q.o;show 2*Y.size+oI _ _<2*s.size+1;omega
      |some i2=>
       unfold eV bM at*
       go_wp2_with fail
       go_roundw
       case rel=>
        obtain⟨j,rfl⟩:∃j,k=j+1:=⟨k -1,by have:=q.o;have:=S.o;omega⟩;exact⟨j,_,Y,rfl,by have:=q.o;have:=S.o;omega,p,aa ⟨λ_=>Nat.zero_le _,an.o,by have:=q.o;have:=l.out.2.2;omega⟩,H7.o,G7.o⟩
       case measure=>
        have e1:=G.o;rw[e1];have h7:∀W a,oI W a<=1:=λW a=>by unfold oI;split<;>omega
        have h8:=h7 ((M.setCell ⟨g,3,none⟩ (.iface 356 (.pointer (some (E i2))))).setCell ⟨g,0,none⟩ (.string ⟨#[]⟩)) ⟨g,3,none⟩;have h9:=q.o;show 2*Y.size+oI _ _<2*s.size+1;omega
  .rw[show decide (c.peer.size≠0)=true by simpa using B]at O;cases u:c.e with
   |some i=>
    have p:=aa (show R=(c,⟨#[]⟩,some i) by
     rw[z.out];show(if c.peer.size≠0\/c.e≠none then _ else _)=_;rw[u,if_pos (.inr bj)])
    rw[u]at c3;unfold eV bM at c3;clear B u c0
    go_wp2_with fail
    refine O.o.mono ?_;rintro e w2 ⟨rfl,rfl⟩
    go_wp2_with fail
    go_region
    all_goals
     go_wp2_with fail
     go_ret2
     exact⟨by rw[p.o];rfl,by rw[p.o];exact KA.o,iq Q.o⟩
   |none=>
    have p:=aa (show R=(c,s,none) by
     rw[z.out];show(if c.peer.size≠0\/c.e≠none then _ else _)=_;rw[if_pos (.inl B),u])
    rw[u]at c3;unfold eV at c3;clear B u c0
    go_wp2_with fail
    refine O.o.mono ?_;rintro e w2 ⟨rfl,rfl⟩
    go_wp2_with fail
    go_ret2
    exact⟨by rw[p.o];rfl,by rw[p.o];exact KA.o,Q.o⟩
end Go.Proofs.P
