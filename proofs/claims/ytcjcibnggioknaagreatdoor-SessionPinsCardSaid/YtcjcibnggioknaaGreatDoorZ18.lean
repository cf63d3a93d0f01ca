/- Lemmas on which SessionPins rests. -/
import Derived.Test.YtcjcibnggioknaaGreatDoorZ17
set_option maxRecDepth 100000
set_option maxHeartbeats 40000000
set_option linter.unusedVariables false
open Go.RowKit Go.Spk
open Go.Proofs.Tryz
namespace Go.Proofs.P
open Go.Extern.Stop Go.Stop Go.Extern
theorem AS(c po d f:Nat)(b:Addr)(w:ay)(h1:w.cell? ⟨c,po+1,none⟩=some (.iface 82 (.pointer (some ⟨d,f,none⟩))))(r:w.cell? ⟨d,f+1,none⟩=some (.iface 356 (.pointer (some b)))):
 Calls prog 21 #[.iface 82 (.pointer (some ⟨c,po,none⟩)),.iface 356 (.pointer (some b))] w λe k=>e= .returned (.bool true)/\k=w:=by
 obtain⟨i,l,a⟩:=bN.1 yf;obtain⟨j,m,n⟩:=bN.1 yg;have s:= @bJ prog 45 _ Extern.ReflectliteType.typeOf func45 al al al al;have o:= @bJ prog 273 _ pZ func273 al al al al;have t:=rG;have u:=lH;have v:=gf;have x:=Hz;have y:=rL;have z:=qg;have nW:=MD;have A:=su;have B:=pH;have p:=run_eql_iface_ptr_same (P:=prog) w b underlying27 underlying356 l a m;have q:=run_eql_iface_types (P:=prog) 82 356 (.pointer (some ⟨c,po,none⟩)) (.pointer (some b)) underlying27 an w;have g:=run_eql_iface_types (P:=prog) 82 356 (.pointer (some ⟨d,f,none⟩)) (.pointer (some b)) underlying27 an w
 go_enter func21,ntmps21
 go_wp2
 refine gO 3 ?_;rw[dX]
 go_wp2
 rw[dX]
 go_wp2
 rw[dX]
 go_wp2
 go_ret
 exact⟨rfl,rfl⟩
theorem zt(d po f g:Nat)(b a:Addr)(n o:gJ)(p q:fg)(w:ay)(h1:w.cell? ⟨d,po+1,none⟩=some (.iface 82 (.pointer (some ⟨f,g,none⟩))))(A:w.cell? ⟨f,g+1,none⟩=some (.iface 356 (.pointer (some a))))(k:a≠b)(r:w.heap[a.block]?=some (.cells n p (0,0)))(s:w.heap[b.block]?=some (.cells o q (0,0))):
 Calls prog 21 #[.iface 82 (.pointer (some ⟨d,po,none⟩)),.iface 356 (.pointer (some b))] w λe t=>e= .returned (.bool false)/\t=w:=by
 obtain⟨i,u,c⟩:=bN.1 yf;obtain⟨j,v,l⟩:=bN.1 yg;have B:= @bJ prog 45 _ Extern.ReflectliteType.typeOf func45 al al al al;have x:= @bJ prog 273 _ pZ func273 al al al al;have C:=rG;have D:=lH;have E:=gf;have F:=Hz;have G:=rL;have H:=qg;have nW:=MD;have I:=su;have J:=pH;have y:=run_eql_iface_ptr_other (P:=prog) w underlying27 underlying356 u c v (by rw[l];decide) k r s;have z:=run_eql_iface_types (P:=prog) 82 356 (.pointer (some ⟨d,po,none⟩)) (.pointer (some b)) underlying27 an w;have m:=run_eql_iface_types (P:=prog) 82 356 (.pointer (some ⟨f,g,none⟩)) (.pointer (some b)) underlying27 an w
 go_enter func21,ntmps21
 go_wp2
 refine gO 3 ?_;rw[dX]
 go_wp2
 rw[dX]
 go_wp2
 rw[dX]
 go_wp2
 go_ret
 exact⟨rfl,rfl⟩
theorem BS.YG{E}{k}(j:k<20){b po d f}{w}(g:ts w E)(h1:w.cell? ⟨b,po+1,none⟩=some (.iface 82 (.pointer (some ⟨d,f,none⟩))))(l:w.cell? ⟨d,f+1,none⟩=some (bM (E k))):BS E (.iface 82 (.pointer (some ⟨b,po,none⟩))) k w:=λi m=>by
 by_cases a:i=k
 .subst a;rw[fj rfl];exact AS b po d f _ w h1 l
 .obtain⟨c,t,n⟩:=g.et k j;obtain⟨o,p,h⟩:=g.et i m;rw[eM a];exact zt b po d f _ _ c o t p w h1 l (λe=>a (g.apart k i j m e).symm) n h
theorem BS.code{E}{k}(b:k<20){tv}{xv}{w}(d:ts w E)(h:BS E (.iface tv xv) k w):
 Calls prog 8 #[.iface tv xv] w λe f=>e= .returned (.int .i64 ((k:Int)+1))/\w=f:=
 Qm E tv xv k b w d (λi c a=>by subst a;exact h.yes b) (λi c a=>h.no c a)
def jU(r:Nat):de:=⟨1,[r],[⟨#[]⟩,⟨#[]⟩],[],[]⟩
theorem AN(r:Nat)(a:r<4294967296):Cb (jU r):=by
 refine⟨⟨#[117,115,115]⟩,(show dh 1=_ from by decide),?_⟩;show I7 [117,115,115] (jU r);refine⟨⟨_,_,rfl,a⟩,⟨_,_,rfl,an⟩,⟨_,_,rfl,an⟩,rfl,rfl,rfl,rfl⟩
theorem qb(r:Nat):(db (jU r)).size=13:=by
 rw[<-aj,pB (m:=jU r) (f:=⟨#[117,115,115]⟩) (show dh 1=_ from by decide)];show([(1:Int)]++(qJ r 4 4++(cG ⟨#[]⟩++(cG ⟨#[]⟩++ [])))).length=13;simp only[List.length_append,eQ,eW,List.length_cons,List.length_nil];decide
theorem Uv{w:ay}{g gh:Nat}{vw re:cH}{s:aX}(E:gn)(n:Env w E)(k:bC s)(h:cP w g gh vw re .nilIface s)(r:Nat)(H:r<4294967296)(I:s.wn<=1000000000)(J:s.out.size<=1000000000000000)(K:s.since<=1000000000000000)(o:30<=g):
 Calls prog 106 #[.pointer (some ⟨g,0,none⟩),.int .u32 (r:Nat),.string ⟨#[]⟩] w λe v=>e= .returned (.tuple #[])/\cP v g gh vw re (bM (E 17)) {l6 s (jU r)with gone:=true}/\w.grownBy v (some g):=by
 have c1:=h.Xs k;have p:=qb r;have l:Below w.heap.size w ((w.alloc (.cells #[.int .u32 (r:Nat)] 147)).alloc (.cells #[.string ⟨#[]⟩,.string ⟨#[]⟩] 9)):=by go_grown
 have c:=n.below l;have q:Whole ((w.alloc (.cells #[.int .u32 (r:Nat)] 147)).alloc (.cells #[.string ⟨#[]⟩,.string ⟨#[]⟩] 9)) w.heap.size 147 #[.int .u32 (r:Nat)]:=(Whole.new rfl rfl).alloc _;have t:Whole ((w.alloc (.cells #[.int .u32 (r:Nat)] 147)).alloc (.cells #[.string ⟨#[]⟩,.string ⟨#[]⟩] 9)) (w.heap.size+1) 9 #[.string ⟨#[]⟩,.string ⟨#[]⟩]:=Whole.new bj rfl;have y:=h.below l h.inside
 have z:kb ((w.alloc (.cells #[.int .u32 (r:Nat)] 147)).alloc (.cells #[.string ⟨#[]⟩,.string ⟨#[]⟩] 9)).heap.size ((w.alloc (.cells #[.int .u32 (r:Nat)] 147)).alloc (.cells #[.string ⟨#[]⟩,.string ⟨#[]⟩] 9)) (.slice (some ⟨w.heap.size,0,none⟩) 1 1) (.slice (some ⟨w.heap.size+1,0,none⟩) 2 2) (.slice none 0 0) (.slice none 0 0) (jU r):=by
  refine⟨.inr ⟨w.heap.size,0,1,rfl,ak _,q.inside,λj x b=> ?_⟩,.inr ⟨w.heap.size+1,0,2,rfl,ak _,t.inside,λj x b=> ?_⟩,⟨[],.inl ⟨rfl,_,_,rfl⟩,trivial⟩,.inl ⟨rfl,_,_,rfl⟩⟩
  .rw[q.at_]
   match j,b with
   |0,b=>simpa[jU]using b
   |j+1,b=>simp[jU]at b
  .rw[t.at_]
   match j,b with
   |0,b=>simpa[jU]using b
   |1,b=>simpa[jU]using b
   |j+2,b=>simp[jU]at b
 have d:=aa (D8 (jU r) (.slice (some ⟨w.heap.size,0,none⟩) 1 1) (.slice (some ⟨w.heap.size+1,0,none⟩) 2 2) (.slice none 0 0) (.slice none 0 0) (AN r H) af af k I J K c.rows c.pX c.order z y);have A:=aa l;have B:=aa n;have M:=aa h.inside;have a:=aa k;clear z q t c y l n h k p
 go_enter func106,ntmps106
 go_wp2_with fail
 refine d.o.mono ?_;rintro e C ⟨rfl,m,D⟩;have f:bC (l6 s (jU r)):=⟨a.o.host,a.o.rZ,a.o.wk,a.o.rk,a.o.iv,a.o.nv,a.o.mh,a.o.iH,a.o.lQ,a.o.lR,a.o.gA,a.o.iG,a.o.id,a.o.key⟩;have N:=Lay.free m 478;have c2:=m.Xs f;have u:w.cell? ⟨17,0,none⟩=some (bM (E 17)):=B.o.gY.var 17 af;have i:=aZ (bR A.o (some g)) D;have L:C.cell? ⟨17,0,none⟩=some (bM (E 17)):=(df (i.block _ (aH u) (bE (by have:30<=g:=o;intro h;rw[<-h]at this;revert this;decide)))).trans u;have F:=aa (m.s_e f (bM (E 17)));have G:=aa (aZ i (aY (w:=C) ⟨g,478,none⟩ rfl (bM (E 17))));clear m D f u i d A B a;unfold bM at L F G
 go_wp2_with fail
 go_end0
 exact⟨rfl,F.o,G.o⟩
end Go.Proofs.P
namespace Go.Spk
def zD(g:Nat):Value:= .slice (some ⟨g,0,none⟩) 1 1
theorem sQ.mono{P Q:Nat->Prop}{w:World}:∀{vs:List Value} {L:List (List ByteArray)},sQ P w vs L->(∀i,P i->Q i)->sQ Q w vs L
 | [],[],_,_=>trivial
 |_::_,_::_,h,k=>⟨h.1.mono k,sQ.mono h.2 k⟩
 | [],_::_,h,_=>h.elim
 |_::_,[],h,_=>h.elim
def j7(T:TypeId)(B:Nat)(w:World):List Value->List (List ByteArray)->Prop
 | [],[]=>True
 |v::r,l::s=>w.ownsRow B T 1 v l.length (l.map Value.string)/\j7 T B w r s
 |_,_=>False
theorem j7.mz{T:TypeId}{B:Nat}{w a:World}(k:gV T w a):∀{vs:List Value} {L:List (List ByteArray)},j7 T B w vs L->j7 T B a vs L
 | [],[],_=>trivial
 |_::_,_::_,h=>⟨nw h.1 k,j7.mz k h.2⟩
 | [],_::_,h=>h.elim
 |_::_,[],h=>h.elim
theorem j7.push{T:TypeId}{B:Nat}{w:World}{v:Value}{l:List ByteArray}(hv:w.ownsRow B T 1 v l.length (l.map Value.string)):∀{vs:List Value} {L:List (List ByteArray)},j7 T B w vs L->j7 T B w (vs++ [v]) (L++ [l])
 | [],[],_=>⟨hv,trivial⟩
 |_::_,_::_,h=>⟨h.1,j7.push hv h.2⟩
 | [],_::_,h=>h.elim
 |_::_,[],h=>h.elim
theorem j7.ns{T:TypeId}{B:Nat}{w:World}:∀{vs:List Value} {L:List (List ByteArray)},j7 T B w vs L->sQ (B<= ·) w vs L
 | [],[],_=>trivial
 |_::_,_::_,h=>⟨iB.pj h.1,j7.ns h.2⟩
 | [],_::_,h=>h.elim
 |_::_,[],h=>h.elim
theorem j7.len{T:TypeId}{B:Nat}{w:World}:∀{vs:List Value} {L:List (List ByteArray)},j7 T B w vs L->vs.length=L.length
 | [],[],_=>rfl
 |v::r,l::s,h=>by simp[j7.len h.2]
 | [],_::_,h=>h.elim
 |_::_,[],h=>h.elim
theorem RX{w:ay}{B B'}{e}{v}{n}{xs}(h:w.ownsRow B' e 1 v n xs)(c:B<=B'):w.ownsRow B e 1 v n xs:=
 ⟨h.1,h.2.imp id (λ⟨g,a,b,d,f,i⟩=>⟨g,a,b,d,ap c f,i⟩)⟩
end Go.Spk
namespace Go.Proofs.P
def sb(e:Nat)(w:World)(row:Array Value):Prop:= ∃a b c d,row= #[zD a,zD b,zD c,zD d,zD d]/\(e<=a/\e<=b/\e<=c/\e<=d)/\Whole w a 9 #[.string Kf]/\Whole w b 9 #[.string mM]/\Whole w c 9 #[.string Jg]/\Whole w d 9 #[.string oW]
theorem sb.below{lo}{w w'}{row}(h:sb lo w row)(e:Below w.heap.size w w'):sb lo w' row:=by
 obtain⟨a,b,c,d,k,l,f,g,i,j⟩:=h;exact⟨a,b,c,d,k,l,f.below e f.inside,g.below e g.inside,i.below e i.inside,j.below e j.inside⟩
section
variable {d:Tmp}{x y:Operand}{ty:TypeId}{pos:String}{after:Array Edge}{gd:Option (Nat×Bool)}{a:Go.Act}{w:World}{K:Go.Act->World->Prop}{Q:Exit->Go.Act->World->Prop}
theorem LK(b:jQ w (a.eval x) 5)(c:mZ 5 (a.eval y)):Oper.wp prog ⟨none,.store 111 x y,ty,pos,after,gd⟩ a w K Q=K (a.put none undef) (w.setCells (lY (a.eval x)) (lZ (a.eval x)) (a.eval y).cells.toList):=lj al b c
end
attribute [local go_sem ↓] LK Go.wp_at_zero Go.wp_at_succ
attribute [local go_sem] cr cD
theorem DA:(prog.info? 111).map (·.size)=some 5:=al
theorem RS(w:ay):Calls prog 40 #[] w λr n=> ∃d,r= .returned (.agg d)/\sb w.heap.size n d/\Below w.heap.size w n:=by
 go_enter func40,ntmps40
 go_upto_region 1 with(fail)
 refine aU (λW=>Below w.heap.size w W/\Whole W w.heap.size 111 #[.slice none 0 0,.slice none 0 0,.slice none 0 0,.slice none 0 0,.slice none 0 0]) ⟨by go_grown,Whole.new rfl rfl⟩ ?_;intro k ⟨e,f⟩;have i:=aa e;have o:=aa f;clear e f
 go_upto_region 2 with(fail)
 refine aU (λW=>Below w.heap.size w W/\Whole W w.heap.size 111 #[.slice none 0 0,.slice none 0 0,.slice none 0 0,.slice none 0 0,.slice none 0 0]/\Whole W k.heap.size 9 #[.string oW]) ⟨i.o.alloc i.o.size _,o.o.alloc _,Whole.made k _ _⟩ ?_;intro a ⟨e,f,p⟩;have j:=aa e;have l:=aa f;have m:=aa p;have v:=aa i.o.size;generalize k.heap.size=b at*;have s:=aa (((l.o.alloc (.cells #[.string ⟨#[99,117,114,118,101,50,53,53,49,57,45,115,104,97,50,53,54]⟩] 9)).alloc (.cells #[.string ⟨#[115,115,104,45,101,100,50,53,53,49,57]⟩] 9)).alloc (.cells #[.string ⟨#[99,104,97,99,104,97,50,48,45,112,111,108,121,49,51,48,53]⟩] 9));have t:=aa (((j.o.alloc j.o.size (.cells #[.string ⟨#[99,117,114,118,101,50,53,53,49,57,45,115,104,97,50,53,54]⟩] 9)).alloc (by have:=j.o.size;simp;omega) (.cells #[.string ⟨#[115,115,104,45,101,100,50,53,53,49,57]⟩] 9)).alloc (by have:=j.o.size;simp;omega) (.cells #[.string ⟨#[99,104,97,99,104,97,50,48,45,112,111,108,121,49,51,48,53]⟩] 9));have x:=aa (((Whole.made a 9 #[.string ⟨#[99,117,114,118,101,50,53,53,49,57,45,115,104,97,50,53,54]⟩]).alloc (.cells #[.string ⟨#[115,115,104,45,101,100,50,53,53,49,57]⟩] 9)).alloc (.cells #[.string ⟨#[99,104,97,99,104,97,50,48,45,112,111,108,121,49,51,48,53]⟩] 9));have y:=aa ((Whole.made (a.alloc (.cells #[.string ⟨#[99,117,114,118,101,50,53,53,49,57,45,115,104,97,50,53,54]⟩] 9)) 9 #[.string ⟨#[115,115,104,45,101,100,50,53,53,49,57]⟩]).alloc (.cells #[.string ⟨#[99,104,97,99,104,97,50,48,45,112,111,108,121,49,51,48,53]⟩] 9));have z:=aa (Whole.made ((a.alloc (.cells #[.string ⟨#[99,117,114,118,101,50,53,53,49,57,45,115,104,97,50,53,54]⟩] 9)).alloc (.cells #[.string ⟨#[115,115,104,45,101,100,50,53,53,49,57]⟩] 9)) 9 #[.string ⟨#[99,104,97,99,104,97,50,48,45,112,111,108,121,49,51,48,53]⟩]);have A:=aa (((m.o.alloc (.cells #[.string ⟨#[99,117,114,118,101,50,53,53,49,57,45,115,104,97,50,53,54]⟩] 9)).alloc (.cells #[.string ⟨#[115,115,104,45,101,100,50,53,53,49,57]⟩] 9)).alloc (.cells #[.string ⟨#[99,104,97,99,104,97,50,48,45,112,111,108,121,49,51,48,53]⟩] 9));clear e f p o i
 go_wp2_with (refine cQ rfl 111 (.tmp 0) (.tmp 8) rfl w.heap.size #[.slice (some ⟨a.heap.size,0,none⟩) 1 1,.slice (some ⟨a.heap.size+1,0,none⟩) 1 1,.slice (some ⟨a.heap.size+1+1,0,none⟩) 1 1,.slice (some ⟨b,0,none⟩) 1 1,.slice (some ⟨b,0,none⟩) 1 1] rfl rfl 111 _ s.o DA rfl (by simp[Value.oneCell']) ?_)
 have c:=bW (((a.alloc (.cells #[.string ⟨#[99,117,114,118,101,50,53,53,49,57,45,115,104,97,50,53,54]⟩] 9)).alloc (.cells #[.string ⟨#[115,115,104,45,101,100,50,53,53,49,57]⟩] 9)).alloc (.cells #[.string ⟨#[99,104,97,99,104,97,50,48,45,112,111,108,121,49,51,48,53]⟩] 9)) w.heap.size #[.slice (some ⟨a.heap.size,0,none⟩) 1 1,.slice (some ⟨a.heap.size+1,0,none⟩) 1 1,.slice (some ⟨a.heap.size+1+1,0,none⟩) 1 1,.slice (some ⟨b,0,none⟩) 1 1,.slice (some ⟨b,0,none⟩) 1 1];have B:=l.o.inside;have C:=m.o.inside
 have D:=aa (show sb w.heap.size ((((a.alloc (.cells #[.string ⟨#[99,117,114,118,101,50,53,53,49,57,45,115,104,97,50,53,54]⟩] 9)).alloc (.cells #[.string ⟨#[115,115,104,45,101,100,50,53,53,49,57]⟩] 9)).alloc (.cells #[.string ⟨#[99,104,97,99,104,97,50,48,45,112,111,108,121,49,51,48,53]⟩] 9)).setRow w.heap.size #[.slice (some ⟨a.heap.size,0,none⟩) 1 1,.slice (some ⟨a.heap.size+1,0,none⟩) 1 1,.slice (some ⟨a.heap.size+1+1,0,none⟩) 1 1,.slice (some ⟨b,0,none⟩) 1 1,.slice (some ⟨b,0,none⟩) 1 1]) #[.slice (some ⟨a.heap.size,0,none⟩) 1 1,.slice (some ⟨a.heap.size+1,0,none⟩) 1 1,.slice (some ⟨a.heap.size+1+1,0,none⟩) 1 1,.slice (some ⟨b,0,none⟩) 1 1,.slice (some ⟨b,0,none⟩) 1 1]from⟨a.heap.size,a.heap.size+1,a.heap.size+1+1,b,rfl,⟨af,af,af,v.o⟩,
  x.o.only c (bE af),Whole.only (g:=a.heap.size+1) (by simpa[mM]using y.o) c (bE af),Whole.only (g:=a.heap.size+1+1) (by simpa[Jg]using z.o) c (bE af),A.o.only c (bE (by have:=fW l.o m.o an;omega))⟩)
 have E:=aa (s.o.row (new:= #[.slice (some ⟨a.heap.size,0,none⟩) 1 1,.slice (some ⟨a.heap.size+1,0,none⟩) 1 1,.slice (some ⟨a.heap.size+1+1,0,none⟩) 1 1,.slice (some ⟨b,0,none⟩) 1 1,.slice (some ⟨b,0,none⟩) 1 1]));have F:=aa (t.o.grown c t.o.size (λq u=>by injection u with u;omega));clear c B C
 go_wp2_with fail
 exact cI (im rfl _ _ w.heap.size 111 _ (0,0) _ rfl E.o underlying111 rfl DA) rfl ⟨_,rfl,D.o,F.o⟩
def Rs(a b c d:Nat):Array Value:= #[zD a,zD b,zD c,zD c,zD d,zD d,zD d,zD d,.slice none 0 0,.slice none 0 0]
def Bb:List (List ByteArray):= [[Kf],[mM],[Jg],[Jg],[oW],[oW],[oW],[oW],[],[]]
theorem VA{a b c d}{w}(i:Whole w a 9 #[.string Kf])(j:Whole w b 9 #[.string mM])(f:Whole w c 9 #[.string Jg])(e:Whole w d 9 #[.string oW])(k:Nat)(l:k<10):
 (∃g x,(Rs a b c d)[k]?=some (zD g)/\Bb[k]?=some [x]/\Whole w g 9 #[.string x])\/((Rs a b c d)[k]?=some (.slice none 0 0)/\Bb[k]?=some []):=by
 have h:k=0\/k=1\/k=2\/k=3\/k=4\/k=5\/k=6\/k=7\/k=8\/k=9:=af;rcases h with rfl|rfl|rfl|rfl|rfl|rfl|rfl|rfl|rfl|rfl
 .exact .inl ⟨a,_,rfl,rfl,i⟩
 .exact .inl ⟨b,_,rfl,rfl,j⟩
 .exact .inl ⟨c,_,rfl,rfl,f⟩
 .exact .inl ⟨c,_,rfl,rfl,f⟩
 .exact .inl ⟨d,_,rfl,rfl,e⟩
 .exact .inl ⟨d,_,rfl,rfl,e⟩
 .exact .inl ⟨d,_,rfl,rfl,e⟩
 .exact .inl ⟨d,_,rfl,rfl,e⟩
 .exact .inr ⟨rfl,rfl⟩
 .exact .inr ⟨rfl,rfl⟩
theorem N8:(prog.info? 33).map (λi=>(i.zero,i.size,i.bytes))=some (some (.slice none 0 0),1,24):=al
theorem J8:∃i,prog.info? 33=some i/\i.zero=some (.slice none 0 0)/\i.size=1/\i.bytes=24:=by
 have h:=N8;cases a:prog.info? 33 with
 |none=>simp[a]at h
 |some i=>simp[a]at h;exact⟨i,rfl,h.1,h.2.1,h.2.2⟩
theorem Za(ck:aR)(Y:ck.length=16)(row:gJ)(l0 M:Nat)(w:ay)(hO:sb l0 w row)(Z:M<=w.heap.size):
 Calls prog 38 #[.agg (ai .u8 ck),.agg row,.bool false] w λr G=> ∃vu vs vn vb,r= .returned (.agg (dP 20 vu vs vn vb))/\mV (λi=>M<=i) G vu vs vn vb (iZ ck)/\Below w.heap.size w G:=by
 obtain⟨a,b,c,d,rfl,_,ha,p,hc,hd⟩:=hO;have v:=aa (And.intro ha (And.intro p (And.intro hc hd)));have ab:=aa Y;have az:=aa Z;unfold zD;clear Y ha p hc hd Z
 go_enter func38,ntmps38
 go_upto_region 2 with(fail)
 refine aU (λW=>Below w.heap.size w W/\Whole W w.heap.size 108 (ai .u8 ck)/\Whole W (w.heap.size+1) 111 #[zD a,zD b,zD c,zD d,zD d]/\Whole W (w.heap.size+2) 106 (dP 0 (.slice none 0 0) (.slice none 0 0) (.slice none 0 0) (.slice none 0 0))) ⟨by go_grown,((Whole.new rfl rfl).alloc _).alloc _,(Whole.new bj rfl).alloc _,Whole.new bj rfl⟩ ?_;intro B ⟨z,kC,kL,kR⟩;have B0:=aa z;have C0:=aa kC;have R0:=aa kR;have c0:B.cell? ⟨w.heap.size+1,0,none⟩=some (.slice (some ⟨a,0,none⟩) 1 1):=by rw[kL.at_];rfl
 have c1:B.cell? ⟨w.heap.size+1,1,none⟩=some (.slice (some ⟨b,0,none⟩) 1 1):=by rw[kL.at_];rfl
 have c2:B.cell? ⟨w.heap.size+1,2,none⟩=some (.slice (some ⟨c,0,none⟩) 1 1):=by rw[kL.at_];rfl
 have c3:B.cell? ⟨w.heap.size+1,3,none⟩=some (.slice (some ⟨d,0,none⟩) 1 1):=by rw[kL.at_];rfl
 have c4:B.cell? ⟨w.heap.size+1,4,none⟩=some (.slice (some ⟨d,0,none⟩) 1 1):=by rw[kL.at_];rfl
 clear z kC kL kR
 go_upto_region 3 with(fail)
 refine aU (λW=>Below w.heap.size w W/\Whole W w.heap.size 108 (ai .u8 ck)/\Whole W (w.heap.size+2) 106 (dP 0 (.slice none 0 0) (.slice none 0 0) (.slice none 0 0) (.slice none 0 0))/\Whole W B.heap.size 33 (Rs a b c d)) ⟨B0.o.alloc B0.o.size _,C0.o.alloc _,R0.o.alloc _,Whole.made B _ _⟩ ?_;intro s ⟨z,kC,kR,kX⟩;have B1:=aa z;have C1:=aa kC;have R1:=aa kR;have X1:=aa kX;generalize B.heap.size=gx at*;have aB:=aa (show Whole s a 9 #[.string Kf]/\Whole s b 9 #[.string mM]/\Whole s c 9 #[.string Jg]/\Whole s d 9 #[.string oW]from⟨v.o.1.below z v.o.1.inside,v.o.2.1.below z v.o.2.1.inside,v.o.2.2.1.below z v.o.2.2.1.inside,v.o.2.2.2.below z v.o.2.2.2.inside⟩);clear z kC kR kX c0 c1 c2 c3 c4 B0 C0 R0 v
 go_loopw [7,28] (λn7 i W=> ∃(k:Nat) (O:List Value),k<=10/\i= .int .i64 k/\W.ownsRow s.heap.size 33 1 n7 k O/\j7 9 s.heap.size W O (Bb.take k)/\Below s.heap.size s W) (λ_ i _=>10 -(intOf i).toNat)
 case atStart=>exact⟨0,[],af,rfl,wV _ _ _,trivial,aw _ _⟩
 case round=>
  obtain⟨k,O,hk,rfl,C,D,p⟩:=hrel;have KO:=aa C;have KA:=aa D;have o:=aa p;clear C D p
  by_cases aC:k<10
  .have ii:(k:Int)<10:=af;have n:=aB.o
   obtain⟨l,y,hy,hl,aj⟩:∃(l:List ByteArray) (y:Value),wr.cell? ⟨gx,k,none⟩=some y/\Bb[k]?=some l/\Hid (Calls prog 62 #[y] wr λe G=> ∃Q,e= .returned Q/\G.ownsRow s.heap.size 9 1 Q l.length (l.map Value.string)/\Below wr.heap.size wr G):=by
    have R:=X1.o.below o.o X1.o.inside;rcases VA (n.1.below o.o n.1.inside) (n.2.1.below o.o n.2.1.inside) (n.2.2.1.below o.o n.2.2.1.inside) (n.2.2.2.below o.o n.2.2.2.inside) k aC with⟨g,x,S,U,h3⟩|⟨S,U⟩
    .refine⟨[x],_,by rw[R.at_];exact S,U,aa ?_⟩
     refine(slices_Clone_string g 0 1 1 [x] wr bj an (λj H=>by
      obtain rfl:j=0:=by simpa using H
      rw[h3.at_];rfl)).mono ?_
     rintro e G ⟨Q,rfl,ho,_,p⟩;exact⟨Q,rfl,RX ho o.o.size,p⟩
    .refine⟨[],_,by rw[R.at_];exact S,U,aa ?_⟩;refine(slices_Clone_string_nil 0 0 wr).mono ?_;rintro e G ⟨rfl,rfl⟩;exact⟨_,rfl,wV _ _ _,aw _ _⟩
   have aE:=aa (by rw[mT,hl];rfl:Bb.take (k+1)=Bb.take k++ [l]);clear hl n
   go_wp2_with fail
   refine aj.out.mono ?_;rintro e I ⟨Q,rfl,ho,p⟩
   obtain⟨E,m,F,rfl⟩:∃E m F,Q= .slice E m F:=by
    rcases ho.2 with⟨h,_⟩|⟨g,f,ao,h,_⟩
    .exact⟨_,_,_,h⟩
    .exact⟨_,_,_,h⟩
   have K2:=aa (nw KO.o (gV.cL p));have A2:=aa (j7.push ho (KA.o.mz (gV.cL p)));have B2:=aa (o.o.trans (p.mono o.o.size));clear ho p aj hy;obtain⟨i0,aF,aG,aK,aS⟩:=J8
   go_wp2_with (at_builtin;refine wpList_append_own_at _ rfl _ _ 104 rfl s.heap.size 33 i0 (.slice none 0 0) 1 24 underlying104 aF aG aK aS rfl an _ k O rfl (nw K2.o (gV.cL ((aw I.heap.size I).alloc (ak _) (.cells #[.slice E m F] 33)))) ⟨I.heap.size,0,none⟩ 1 1 [.slice E m F] rfl rfl (cell_one_new _ _ _) ?c1 ?c2 ?c3 ?c4 ?_)
   case c1=>intro u hu;obtain rfl:=ar.1 hu;rfl
   case c2=>unfold maxLen;omega
   case c3=>omega
   case c4=>have:=B2.o.size;simp;omega
   intro v2 W3 t J _ av;have ha:=gV.cL (e:=9) ((aw I.heap.size I).alloc (ak _) (.cells #[.slice E m F] 33));have hk:=gV.pj (e:=9) (nw K2.o (gV.cL ((aw I.heap.size I).alloc (ak _) (.cells #[.slice E m F] 33)))) J an;have A3:=aa ((A2.o.mz ha).mz hk);have K3:=aa t
   have B3:=aa ((B2.o.alloc B2.o.size (.cells #[.slice E m F] 33)).grown J (by have:=B2.o.size;simp;omega) (λq K=>by
    rcases K2.o.2 with⟨h,_⟩|⟨g,f,ao,h,hB,_⟩
    .rw[h]at K;cases K
    .rw[h]at K;simp[Value.ownBlock]at K;omega))
   clear ha hk t J av
   go_wp2_with fail
   go_roundw
   case rel=>exact⟨k+1,O++ [.slice E m F],af,by go_num,K3.o,by rw[aE.o];exact A3.o,B3.o⟩
   case measure=>simp[intOf];omega
  .obtain rfl:k=10:=af;obtain⟨A,f,ao,rfl,_⟩:=KO.o.2.resolve_left (λh=>by cases h.2);obtain⟨X,R⟩:=aP (strOfNums ck);have HX:=aa R;have hC:=(C1.o.below o.o C1.o.inside).alloc (.cells #[.int .u32 0] 147);have ax:=bv (P:=prog) (wr.alloc (.cells #[.int .u32 0] 147)) 99 5 underlying99 underlying5 w.heap.size 0 16 16 ck ab.o (ey _ _ _ ck 16 hC ab.o) 9 underlying9;rw[<-R]at ax;have R4:=aa ((((R1.o.below o.o R1.o.inside).alloc (.cells #[.int .u32 0] 147)).alloc (.cells #[.string X] 9)).alloc (.cells #[.bool false] 4));have B4:=aa (((((aw wr.heap.size wr).alloc (ak _) (.cells #[.int .u32 0] 147)).alloc bj (.cells #[.string X] 9)).alloc (by simp;omega) (.cells #[.bool false] 4)));have HU:=aa (((Whole.made wr 147 #[.int .u32 0]).alloc (.cells #[.string X] 9)).alloc (.cells #[.bool false] 4));have HS:=aa ((Whole.made (wr.alloc (.cells #[.int .u32 0] 147)) 9 #[.string X]).alloc (.cells #[.bool false] 4));have HB:=aa (Whole.made ((wr.alloc (.cells #[.int .u32 0] 147)).alloc (.cells #[.string X] 9)) 4 #[.bool false]);have aV:=aa R1.o.inside;clear R hC
   go_wp2_with (refine cQ rfl 106 (.tmp 6) (.tmp 45) rfl (w.heap.size+2) #[.int .i64 20,.slice (some ⟨wr.heap.size,0,none⟩) 1 1,.slice (some ⟨wr.heap.size+1,0,none⟩) 1 1,.slice (some ⟨A,0,none⟩) 10 f,.slice (some ⟨wr.heap.size+1+1,0,none⟩) 1 1] rfl rfl 106 _ R4.o al rfl (by simp[Value.oneCell']) ?_)
   have V:=bW (((wr.alloc (.cells #[.int .u32 0] 147)).alloc (.cells #[.string X] 9)).alloc (.cells #[.bool false] 4)) (w.heap.size+2) #[.int .i64 20,.slice (some ⟨wr.heap.size,0,none⟩) 1 1,.slice (some ⟨wr.heap.size+1,0,none⟩) 1 1,.slice (some ⟨A,0,none⟩) 10 f,.slice (some ⟨wr.heap.size+1+1,0,none⟩) 1 1];have aY:w.heap.size+2<wr.heap.size:=aL aV.o o.o.size;have HR:=R4.o.row (new:= #[.int .i64 20,.slice (some ⟨wr.heap.size,0,none⟩) 1 1,.slice (some ⟨wr.heap.size+1,0,none⟩) 1 1,.slice (some ⟨A,0,none⟩) 10 f,.slice (some ⟨wr.heap.size+1+1,0,none⟩) 1 1]);refine cI (im rfl _ _ (w.heap.size+2) 106 _ (0,0) _ rfl HR underlying106 rfl al) rfl ⟨.slice (some ⟨wr.heap.size,0,none⟩) 1 1,.slice (some ⟨wr.heap.size+1,0,none⟩) 1 1,.slice (some ⟨A,0,none⟩) 10 f,.slice (some ⟨wr.heap.size+1+1,0,none⟩) 1 1,rfl,?_,?_⟩
   .have S:Whole ((((wr.alloc (.cells #[.int .u32 0] 147)).alloc (.cells #[.string X] 9)).alloc (.cells #[.bool false] 4)).setRow (w.heap.size+2) #[.int .i64 20,.slice (some ⟨wr.heap.size,0,none⟩) 1 1,.slice (some ⟨wr.heap.size+1,0,none⟩) 1 1,.slice (some ⟨A,0,none⟩) 10 f,.slice (some ⟨wr.heap.size+1+1,0,none⟩) 1 1]) wr.heap.size 147 #[.int .u32 0]:=HU.o.only V (bE af);have U:Whole ((((wr.alloc (.cells #[.int .u32 0] 147)).alloc (.cells #[.string X] 9)).alloc (.cells #[.bool false] 4)).setRow (w.heap.size+2) #[.int .i64 20,.slice (some ⟨wr.heap.size,0,none⟩) 1 1,.slice (some ⟨wr.heap.size+1,0,none⟩) 1 1,.slice (some ⟨A,0,none⟩) 10 f,.slice (some ⟨wr.heap.size+1+1,0,none⟩) 1 1]) (wr.heap.size+1) 9 #[.string X]:=Whole.only (g:=wr.heap.size+1) (ek HS.o) V (bE af);have h3:Whole ((((wr.alloc (.cells #[.int .u32 0] 147)).alloc (.cells #[.string X] 9)).alloc (.cells #[.bool false] 4)).setRow (w.heap.size+2) #[.int .i64 20,.slice (some ⟨wr.heap.size,0,none⟩) 1 1,.slice (some ⟨wr.heap.size+1,0,none⟩) 1 1,.slice (some ⟨A,0,none⟩) 10 f,.slice (some ⟨wr.heap.size+1+1,0,none⟩) 1 1]) (wr.heap.size+1+1) 4 #[.bool false]:=Whole.only (g:=wr.heap.size+1+1) (ek HB.o) V (bE af);have hm:=R1.o.below o.o R1.o.inside;have k1:gV 33 wr ((((wr.alloc (.cells #[.int .u32 0] 147)).alloc (.cells #[.string X] 9)).alloc (.cells #[.bool false] 4)).setRow (w.heap.size+2) #[.int .i64 20,.slice (some ⟨wr.heap.size,0,none⟩) 1 1,.slice (some ⟨wr.heap.size+1,0,none⟩) 1 1,.slice (some ⟨A,0,none⟩) 10 f,.slice (some ⟨wr.heap.size+1+1,0,none⟩) 1 1]):=(gV.cL B4.o).trans (gV.bZ R4.o V an);have k2:gV 9 wr ((((wr.alloc (.cells #[.int .u32 0] 147)).alloc (.cells #[.string X] 9)).alloc (.cells #[.bool false] 4)).setRow (w.heap.size+2) #[.int .i64 20,.slice (some ⟨wr.heap.size,0,none⟩) 1 1,.slice (some ⟨wr.heap.size+1,0,none⟩) 1 1,.slice (some ⟨A,0,none⟩) 10 f,.slice (some ⟨wr.heap.size+1+1,0,none⟩) 1 1]):=(gV.cL B4.o).trans (gV.bZ R4.o V an);have L:M<=s.heap.size:=ap az.o B1.o.size;have aX:M<=wr.heap.size:=ap L o.o.size;refine⟨.inr ⟨wr.heap.size,0,1,rfl,ak _,aX,S.inside,λj x H=> ?_⟩,.inr ⟨wr.heap.size+1,0,1,rfl,ak _,by show M<=_;omega,U.inside,λj x H=> ?_⟩,⟨O,?_,?_⟩,.inr ⟨wr.heap.size+1+1,0,1,rfl,ak _,by show M<=_;omega,h3.inside,λj x H=> ?_⟩⟩
    .rw[aW,S.at_,<-H];cases j<;>rfl
    .rw[aW,U.at_,<-H,HX.o];cases j<;>rfl
    .exact(iB.pj (nw KO.o k1)).mono (λi hi=>ap L hi)
    .have:=(j7.mz k2 KA.o).ns;rw[show Bb.take 10=(iZ ck).N from rfl]at this;exact sQ.mono this (λi hi=>ap L hi)
    .rw[aW,h3.at_,<-H];cases j<;>rfl
   .exact(B1.o.trans (o.o.mono B1.o.size)|>.trans (B4.o.mono (ap B1.o.size o.o.size))).grown V (by have:=B1.o.size;have:=o.o.size;have:=B4.o.size;omega) (λq K=>by injection K with K;omega)
end Go.Proofs.P
namespace Go.Proofs.P
theorem JM(v:cH)(l:eL)(x:bB)(w:ay)(h:ee w v l)(hl:l.length<=1000000):
 Calls prog 210 #[v,.string x] w λe a=>e= .returned (.bool (Lib.containsS l x))/\a=w:=by
 rcases h with⟨rfl,A,c,rfl⟩|⟨g,o,c,rfl,f,i,d⟩
 .refine(slices_Contains_string_empty A c x w).mono ?_;rintro e a ⟨rfl,rfl⟩;exact⟨by first|rfl|simp[Lib.containsS],rfl⟩
 .refine(slices_Contains_string g o l.length c l x w (ak _) af (λj b=>by
   rw[d j _ (aQ b)];simp[List.getD_eq_getElem?_getD,List.getElem?_eq_getElem b])).mono ?_
  rintro e a ⟨rfl,rfl⟩;exact⟨by rw[List.take_length],rfl⟩
theorem yN{c s:eL}{k:Nat}(d:k<c.length)(h:lB (c.take k) s=none):(Lib.containsS s c[k]=true->lB c s=some c[k])/\(Lib.containsS s c[k]=false->lB (c.take (k+1)) s=none):=by
 have a:lB (c.take (k+1)) s=if Lib.containsS s c[k]=true then some c[k]else none:=by
  unfold lB at h⊢;rw[List.take_succ_eq_append_getElem d,List.find?_append,h];cases e:Lib.containsS s c[k]<;>simp[e]
 refine⟨λb=> ?_,λb=> ?_⟩
 .rw[aJ b]at a;have f:lB c s=lB (c.take (k+1)++c.drop (k+1)) s:=by rw[cR]
  rw[f];unfold lB at a⊢;rw[List.find?_append,a]
  rfl
 .rw[a,b];rfl
theorem Gp(E:gn)(v u:cH)(c s:eL)(w:ay)(hv:ee w v c)(B:ee w u s)(S:c.length<=1000000)(J:s.length<=1000000)(C:Env w E):
 Calls prog 182 #[v,u] w λe K=>e= .returned (.tuple (match lB c s with|some x=> #[.string x,.nilIface]|none=> #[.string ⟨#[]⟩,bM (E 12)]))/\Below w.heap.size w K:=by
 have L:=aa (show w.cell? ⟨12,0,none⟩=some (bM (E 12))from C.gY.var 12 af);have M:=aa (λx=>JM u s x w B J)
 obtain⟨U,sl,V,rfl,D⟩:∃A n F,v= .slice A n F/\Hid (n=c.length/\ ∀j (p:j<c.length),∃g o,A=some ⟨g,o,none⟩/\n<=F/\w.cell? ⟨g,o+j,none⟩=some (.string c[j])):=by
  rcases hv with⟨rfl,A,k,rfl⟩|⟨g,o,k,rfl,N,X,O⟩
  .exact⟨A,0,k,rfl,aa ⟨rfl,λj p=>absurd p bj⟩⟩
  .exact⟨some ⟨g,o,none⟩,c.length,k,rfl,aa ⟨rfl,λj p=>⟨g,o,rfl,N,O j _ (aQ p)⟩⟩⟩
 obtain rfl:=D.out.1;obtain⟨R,q⟩:=aP ((match lB c s with|some x=> #[Value.string x,.nilIface]|none=> #[.string ⟨#[]⟩,bM (E 12)]));rw[<-q];have G:=aa q;clear hv B C q
 go_enter func182,ntmps182
 go_wp2_with fail
 go_loopw [10] (λi W=> ∃k:Nat,k<=c.length/\i= .int .i64 k/\W=w/\Hid (lB (c.take k) s=none)) (λi _=>c.length -(intOf i).toNat)
 case atStart=>exact⟨0,ce _,rfl,rfl,aa rfl⟩
 case round=>
  obtain⟨k,Y,rfl,rfl,l⟩:=hrel
  by_cases d:k<c.length
  .have P:(k:Int)<c.length:=af;obtain⟨g,o,rfl,H,f⟩:=D.out.2 k d;obtain⟨x,r⟩:=aP (c[k]);have y:=aa r;rw[<-r]at f;have a:=M.o x;obtain⟨b,z⟩:=aP (Lib.containsS s x);rw[<-z]at a;have I:=aa z;clear r z;cases b
   .have m:=aa ((yN d l.out).2 (by rw[<-y.o];exact I.o.symm));clear l
    go_wp2_with fail
    refine a.mono ?_;rintro e Q ⟨rfl,rfl⟩
    go_wp2_with fail
    go_roundw
    case rel=>exact⟨k+1,af,by go_num,by first|rfl|trivial,m.o⟩
    case measure=>simp[intOf];omega
   .have m:=aa ((yN d l.out).1 (by rw[<-y.o];exact I.o.symm));clear l
    go_wp2_with fail
    refine a.mono ?_;rintro e Q ⟨rfl,rfl⟩
    go_wp2_with fail
    exact cI (results_tmp2 (t:=4) (u:=5) rfl _ _ _) rfl ⟨by rw[G.o,m.o,y.o];rfl,aw _ _⟩
  .have P:¬(k:Int)<c.length:=af;have m:=aa (show lB c s=none by have:=l.out;rwa[bL af]at this);have Z:=L.o;clear l
   go_wp2_with fail
   go_region
   go_wp2_with fail
   exact cI (results_tmp2 (t:=4) (u:=5) rfl _ _ _) rfl ⟨by rw[G.o,m.o];rfl,(aw _ _).drew⟩
def GF(x:CU):List (List Value):= [[.string x.l0],[.string x.l1],[.string x.i0],[.string x.i1],[.string x.hb],x.p0.map (Value.int .u8),x.p1.map (Value.int .u8),x.sec.map (Value.int .u8)]
def tD(x:CU):Array Value:=(GF x).flatten.toArray
def YE:List Nat:= [1,1,1,1,1,32,32,32]
theorem QC{x:CU}(a:x.p0.length=32)(h1:x.p1.length=32)(b:x.sec.length=32):(GF x).map List.length=YE:=by
 unfold GF YE;simp[a,h1,b]
section
variable {d:Tmp}{x y:Operand}{ty:TypeId}{pos:String}{after:Array Edge}{gd:Option (Nat×Bool)}{a:Go.Act}{w:World}{K:Go.Act->World->Prop}{Q:Exit->Go.Act->World->Prop}
theorem Xb(b:jQ w (a.eval x) 2):Oper.wp prog ⟨some d,.load 70 x,ty,pos,after,gd⟩ a w K Q=K (a.put (some d) (jx w (a.eval x) 2)) w:=iS underlying70 rfl al b
theorem Xf(b:jQ w (a.eval x) 2)(c:mZ 2 (a.eval y)):Oper.wp prog ⟨none,.store 70 x y,ty,pos,after,gd⟩ a w K Q=K (a.put none undef) (w.setCells (lY (a.eval x)) (lZ (a.eval x)) (a.eval y).cells.toList):=lj al b c
theorem Ni(b:jQ w (a.eval x) 64):Oper.wp prog ⟨some d,.load 71 x,ty,pos,after,gd⟩ a w K Q=K (a.put (some d) (jx w (a.eval x) 64)) w:=iS underlying71 rfl al b
end
theorem Zn(a b c d:bB)(w:ay):(Instr.index 286 (.agg #[.string a,.string b,.string c,.string d]) (.int .i64 0)).run prog w= .ok (.agg #[.string a,.string b]) w:=by show _=_;kernel_rfl
theorem Zo(a b c d:bB)(w:ay):(Instr.index 286 (.agg #[.string a,.string b,.string c,.string d]) (.int .i64 1)).run prog w= .ok (.agg #[.string c,.string d]) w:=by show _=_;kernel_rfl
theorem VW{a b:aR}(c:a.length=32)(d:b.length=32)(W:ay):(Instr.index 71 (.agg (ai .u8 (a++b))) (.int .i64 0)).run prog W= .ok (.agg (ai .u8 a)) W:=
 match a,c,b,d with
 | [Y,Z,a2,a3,a4,a5,a6,a7,a8,a9,e,f,g,h,i,j,k,l,m,n,o,p,q,r,s,t,u,v,w,x,y,z],_,[b0,b1,b2,b3,b4,b5,b6,b7,b8,b9,A,B,C,D,E,F,G,H,I,J,K,L,M,N,O,P,Q,R,S,U,V,X],_=>by show _=_;kernel_rfl
theorem VX{a b:aR}(c:a.length=32)(d:b.length=32)(W:ay):(Instr.index 71 (.agg (ai .u8 (a++b))) (.int .i64 1)).run prog W= .ok (.agg (ai .u8 b)) W:=
 match a,c,b,d with
 | [Y,Z,a2,a3,a4,a5,a6,a7,a8,a9,e,f,g,h,i,j,k,l,m,n,o,p,q,r,s,t,u,v,w,x,y,z],_,[b0,b1,b2,b3,b4,b5,b6,b7,b8,b9,A,B,C,D,E,F,G,H,I,J,K,L,M,N,O,P,Q,R,S,U,V,X],_=>by show _=_;kernel_rfl
def OC(B b:Nat)(a:World)(xs:List Int)(W:World):Prop:=ec B b xs W/\nK B b a W/\B<=W.heap.size
theorem OC.grow{B b:Nat}{c W d:ay}{xs:aR}(h:OC B b c xs W)(a:Below W.heap.size W d):OC B b c xs d:=
 ⟨h.1.below a,h.2.1.trans (nK.cL a h.2.2),ap h.2.2 a.size⟩
theorem OC.wrote{B b:Nat}{c W a:ay}{xs ys:aR}(h:OC B b c xs W)(e:ec B b ys a)(d:nK B b W a):OC B b c ys a:=
 ⟨e,h.2.1.trans d,ap h.2.2 d.1.size⟩
theorem OC.keeps{B b g:Nat}{t:fg}{cs:gJ}{a W:ay}{xs:aR}(h:OC B b a xs W)(c:Whole a g t cs)(d:g≠b)(e:t≠5):Whole W g t cs:=c.Pb h.2.1.2 d e
theorem ec.ne{B b g:Nat}{t:fg}{cs:gJ}{xs:aR}{W:ay}(h:ec B b xs W)(d:Whole W g t cs)(f:t≠156):g≠b:=λe=>by
 subst e;have a:W.heap[g]?=some (.cells cs t (0,0)):=d;rcases h with⟨v,c,_⟩|⟨v,c,_⟩
 all_goals
  rw[c]at a;injection a with a;injection a with _ i;exact f i.symm
theorem Ed{l:aR}(h:∀z∈l,0<=z/\z<=255):cG (strOfNums l)=gN l:=by unfold cG gN;rw[cJ h,bG]
def OB(B b:Nat)(a:World)(g:Nat)(t:TypeId)(cs:Array Value)(xs:List Int)(W:World):Prop:=OC B b a xs W/\Whole W g t cs
theorem OB.drew{B b:Nat}{a:ay}{g:Nat}{t:fg}{cs:gJ}{xs:aR}{W:ay}(h:OB B b a g t cs xs W):OB B b a g t cs xs W.drew:=⟨h.1.grow (bA (aw _ W) 1),h.2⟩
theorem pY(W:ay)(o:Obj)(cs:gF):Below W.heap.size W ((W.alloc o).setCells W.heap.size 0 cs):=((aw W.heap.size W).alloc (ak _) o).grown (aG _ _ _ _) bj (λq a=>by injection a with a;omega)
attribute [local go_sem ↓] Xb Xf Ni iw iy Go.wp_at_zero Go.wp_at_succ
attribute [local go_sem] cr cD
theorem YL(x:CU)(I:dn x.p0)(h1:dn x.p1)(h2:dn x.sec)(z0:x.l0.size<=100000)(z1:x.l1.size<=100000)(z2:x.i0.size<=100000)(z3:x.i1.size<=100000)(z4:x.hb.size<=100000)(w:ay)(hw:dt w)(hf:dJ w):
 Calls prog 153 #[.agg (tD x)] w λr w'=>r= .returned (.agg (ai .u8 (fQ x)))/\Below w.heap.size w w':=by
 obtain⟨u,aV⟩:=aP (x.l0);obtain⟨A,aX⟩:=aP (x.l1);obtain⟨C,aY⟩:=aP (x.i0);obtain⟨D,aZ⟩:=aP (x.i1);obtain⟨hb,a0⟩:=aP (x.hb);obtain⟨F,J⟩:=aP (x.p0);obtain⟨G,L⟩:=aP (x.p1);obtain⟨H,M⟩:=aP (x.sec);have hP:GF x= [[.string u],[.string A],[.string C],[.string D],[.string hb],F.map (Value.int .u8),G.map (Value.int .u8),H.map (Value.int .u8)]:=by rw[aV,aX,aY,aZ,a0,J,L,M];rfl
 have hX:QZ x=cG u++cG A++cG C++cG D++cG hb++gN F++gN G++gN (vY H):=by rw[aV,aX,aY,aZ,a0,J,L,M];rfl
 rw[<-aV]at z0;rw[<-aX]at z1;rw[<-aY]at z2;rw[<-aZ]at z3;rw[<-a0]at z4;rw[<-J]at I;rw[<-L]at h1;rw[<-M]at h2;have bd:(GF x).map List.length=YE:=QC (J▸I.1) (L▸h1.1) (M▸h2.1);unfold fQ;obtain⟨N,O⟩:=aP (QZ x)
 have bq:∀v∈N,0<=v/\v<=255:=by
  rw[O,hX]
  have hL:∀l:List Int,(∀z∈l,0<=z/\z<=255)-> ∀z∈gN l,0<=z/\z<=255:=λl h z p=>by
   unfold gN at p;rcases bT.1 p with p|p
   .exact qK _ _ _ z p
   .exact h z p
  have b2:∀z∈vY H,0<=z/\z<=255:=λz p=>by
   have be:∀z∈H.dropWhile (· ==0),0<=z/\z<=255:=λz p=>jG h2.2 z ((List.dropWhile_sublist _).mem p);unfold vY at p
   split at p
   .cases p
   .rename_i y r b3;rw[b3]at be
    split at p
    .rcases dz.1 p with rfl|p
     .omega
     .exact be z p
    .exact be z p
  intro v o;simp only[List.mem_append]at o;rcases o with((((((o|o)|o)|o)|o)|o)|o)|o
  .exact lN _ v o
  .exact lN _ v o
  .exact lN _ v o
  .exact lN _ v o
  .exact lN _ v o
  .exact hL _ (jG I.2) v o
  .exact hL _ (jG h1.2) v o
  .exact hL _ b2 v o
 have br:N.length<=1000000/\N≠ []:=by
  have hm:=vI H
  have hl:N.length=4+u.size+(4+A.size)+(4+C.size)+(4+D.size)+(4+hb.size)+(4+32)+(4+32)+(4+(vY H).length):=by
   rw[O,hX];unfold gN;simp only[List.length_append,eQ,eW,I.1,h1.1]
  rw[h2.1]at hm;refine⟨af,λh=> ?_⟩;rw[h]at hl;simp only[List.length_nil]at hl;omega
 rw[<-O];obtain⟨R,hR⟩:=aP (mj false N);have bs:=aa (by rw[hR];exact eG _ _:R.length=32);have b4:=aa hR;rw[<-hR];clear hR;unfold tD;obtain⟨PP,bt⟩:=aP (GF x);rw[<-bt]at hP bd⊢;obtain⟨Q0,Q⟩:=aP (strOfNums F);obtain⟨Q1,U⟩:=aP (strOfNums G);obtain⟨QS,a1⟩:=aP (strOfNums H);have V:cG Q0=gN F:=by rw[Q];exact Ed (jG I.2)
 have X:cG Q1=gN G:=by rw[U];exact Ed (jG h1.2)
 have bw:bI QS=H:=by rw[a1];exact cJ (jG h2.2)
 have a2:N=cG u++cG A++cG C++cG D++cG hb++cG Q0++cG Q1++(qJ (vY (bI QS)).length 4 4++vY (bI QS)):=by rw[O,hX,V,X,bw];rfl
 obtain⟨x1,a3⟩:=aP ([]++cG u);obtain⟨x2,a4⟩:=aP (x1++cG A);obtain⟨x3,a5⟩:=aP (x2++cG C);obtain⟨x4,a6⟩:=aP (x3++cG D);obtain⟨x5,a7⟩:=aP (x4++cG hb);obtain⟨x6,a8⟩:=aP (x5++cG Q0);obtain⟨x7,a9⟩:=aP (x6++cG Q1);have b5:Q0.size=32:=by rw[Q,bG,I.1]
 have b6:Q1.size=32:=by rw[U,bG,h1.1]
 have s:=aa (show x1.length<=1000000/\x2.length<=1000000/\x3.length<=1000000/\x4.length<=1000000/\x5.length<=1000000/\x6.length<=1000000/\x7.length<=1000000 by
  rw[a9,a8,a7,a6,a5,a4,a3];simp only[List.length_append,List.length_nil,eQ];omega)
 have b7:=aa a3;have b8:=aa a4;have b9:=aa a5;have ca:=aa a6;have cb:=aa a7;have cc:=aa a8;have cd:=aa a9;have a2:N=x7++(qJ (vY (bI QS)).length 4 4++vY (bI QS)):=by rw[a2,a9,a8,a7,a6,a5,a4,a3,eo]
 clear a3 a4 a5 a6 a7 a8 a9 b5 b6;have HX:=aa a2;have bx:=aa bq;have bz:=aa br;have HP:=aa hP;have Y:=aa bd;have Z:=aa I.1;have ab:=aa h1.1;have bA:=aa h2.1;have cf:=aa Q;have cg:=aa U;have ch:=aa a1;have bB:=aa (by rw[Q,bG,I.1]:Q0.size=32);have bC:=aa (by rw[U,bG,h1.1]:Q1.size=32);have bE:=aa (by rw[a1,bG,h2.1]:QS.size=32);have HZ:=aa (And.intro z0 (And.intro z1 (And.intro z2 (And.intro z3 z4))));have ci:=aa hw;have ck:=aa hf;have cl:=aa (λW=>VW (a:=F) (b:=G) I.1 h1.1 W);have cm:=aa (λW=>VX (a:=F) (b:=G) I.1 h1.1 W);clear aV aX aY aZ a0 J L M hX I h1 h2 z0 z1 z2 z3 z4 O bq br bt Q U a1 V X bw a2 hP bd hw hf
 go_enter func153,ntmps153
 go_upto_region 2 with(fail)
 refine aU (λW=>Below w.heap.size w W/\Whole W w.heap.size 73 PP.flatten.toArray/\Whole W (w.heap.size+1) 22 #[ao,ao,ao,ao,ao,ao,ao,ao,ao,ao,ao,ao,ao,ao,ao,ao,ao,ao,ao,ao,ao,ao,ao,ao,ao,ao,ao,ao,ao,ao,ao,ao]/\ec (w.heap.size+3) (w.heap.size+2) [] W/\w.heap.size+3<=W.heap.size) ⟨by go_grown,((Whole.new rfl rfl).alloc _).alloc _,(Whole.new bj rfl).alloc _,ec.fresh _ (Whole.new bj rfl),bj⟩ ?_;intro E ⟨kB,kX,kR,kO,kS⟩;have B0:=aa kB;have ad:=aa (show Lay E w.heap.size 73 PP from kX);have cn:=aa kR;have C0:=aa (show OC (w.heap.size+3) (w.heap.size+2) E [] E from⟨kO,nK.refl _ _ _,kS⟩);obtain⟨B,bg⟩:=aP (w.heap.size+3);obtain⟨b,bh⟩:=aP (w.heap.size+1+1);rw[<-bg,show w.heap.size+2=b by omega]at C0;rw[<-bh];have bF:=aa bg;have aj:=aa bh;have Nt:=ad.o.run 0 2 0 [.string u,.string A] (by rw[Y.o];rfl) (by rw[HP.o];rfl);have Tz:=ad.o.run 2 2 2 [.string C,.string D] (by rw[Y.o];rfl) (by rw[HP.o];rfl);have cx:=Nt.R (m:=2) rfl;have cy:=Nt.row (m:=2) rfl;have cz:=Tz.R (m:=2) rfl;have cA:=Tz.row (m:=2) rfl;clear kB kX kR kO kS Nt Tz bg bh;have bM:=Zn u A C D;have bO:=Zo u A C D
 go_wp2_with fail
 refine gO 3 ?_;rw[dX];have av:=Whole.new (w:=E) (g:=E.heap.size) (t:=70) (cs:= #[.string ⟨#[]⟩,.string ⟨#[]⟩]) rfl rfl;have co:=(At.j av).R (m:=2) rfl;have cp:mZ 2 (.agg #[.string u,.string A]):=⟨_,rfl,rfl,by simp[Value.oneCell']⟩;have bR:=aa av;clear av
 go_upto_region 5 with(fail)
 refine aU (λW=>OB B b E E.heap.size 70 #[.string u,.string A] [] W) ⟨OC.grow C0.o (pY _ _ _),bR.o.fill rfl⟩ ?_;intro V1 kV;have bk:=aa kV;clear kV co cp bR;generalize E.heap.size=ax at bk⊢;refine jq (OB B b E ax 70 #[.string u,.string A]) (λ_ _=>True) [] al bk.o.drew ?_;refine gL (λ_=>trivial) (λ_ _ _ _ _=>trivial) 0 rfl al (λK e=> ?_);refine jl al ⟨.pointer (some ⟨ax,0,none⟩),λs' hs W d=> ?_,?_⟩
 .refine aD ?_;go_simp
 go_simp;refine e _ ?_;clear e K;refine gL (λ_=>trivial) (λ_ _ _ _ _=>trivial) 1 rfl al (λK e=> ?_);refine jl al ⟨.string u,λs' hs W d=> ?_,?_⟩
 .refine aD ?_;have c:W.cell? ⟨ax,0,none⟩=some (.string u):=by rw[d.2.at_];rfl
  go_simp
 go_simp;refine e _ ?_;clear e K;refine gL (λ_=>trivial) (λ_ _ _ _ _=>trivial) 3 rfl al (λK e=> ?_);refine jl al ⟨.pointer (some ⟨ax,1,none⟩),λs' hs W d=> ?_,?_⟩
 .refine aD ?_;go_simp
 go_simp;refine e _ ?_;clear e K;refine gL (λ_=>trivial) (λ_ _ _ _ _=>trivial) 4 rfl al (λK e=> ?_);refine jl al ⟨.string A,λs' hs W d=> ?_,?_⟩
 .refine aD ?_;have c:W.cell? ⟨ax,1,none⟩=some (.string A):=by rw[d.2.at_];rfl
  go_simp
 go_simp;refine e _ ?_;clear e K;refine rJ [2] al rfl (λi hi=> ?_);obtain rfl:=ar.1 hi;clear hi;refine oz rfl al (λK e W d=> ?_);refine qr 71 #[.pointer (some ⟨b,0,none⟩),.string u] W fN ?_;refine(kE u (dp HZ.o) B b _ W d.1.1 (by first|decide|(have:=s.o;omega)) d.1.2.2).mono ?_;rintro r W' ⟨rfl,n,f⟩;refine⟨_,x1,rfl,trivial,⟨d.1.wrote (by rw[b7.o];exact n:ec B b x1 W') f,d.2.Pb f.2 (d.1.1.ne d.2 an) an⟩,e _ _ ?_⟩;clear n f W';go_simp;clear d e K W;refine rJ [5] al rfl (λi hi=> ?_);obtain rfl:=ar.1 hi;clear hi;refine oz rfl al (λK e W d=> ?_);refine qr 71 #[.pointer (some ⟨b,0,none⟩),.string A] W fN ?_;refine(kE A (dp HZ.o) B b _ W d.1.1 (by first|decide|(have:=s.o;omega)) d.1.2.2).mono ?_;rintro r W' ⟨rfl,n,f⟩;refine⟨_,x2,rfl,trivial,⟨d.1.wrote (by rw[b8.o];exact n:ec B b x2 W') f,d.2.Pb f.2 (d.1.1.ne d.2 an) an⟩,e _ _ ?_⟩;clear n f W';go_simp;clear d e K W;refine DK al ?_;intro W d;have C1:=aa d.1;clear d bk;obtain⟨ba,rfl⟩:=aP W
 go_wp2_with fail
 rw[dX];have az:=Whole.new (w:=ba) (g:=ba.heap.size) (t:=70) (cs:= #[.string ⟨#[]⟩,.string ⟨#[]⟩]) rfl rfl;have cq:=(At.j az).R (m:=2) rfl;have cr:mZ 2 (.agg #[.string C,.string D]):=⟨_,rfl,rfl,by simp[Value.oneCell']⟩;have bS:=aa az;clear az
 go_upto_region 5 with(fail)
 refine aU (λW=>OB B b E ba.heap.size 70 #[.string C,.string D] x2 W) ⟨OC.grow C1.o (pY _ _ _),bS.o.fill rfl⟩ ?_;intro V2 kV;have bl:=aa kV;clear kV cq cr bS;generalize ba.heap.size=aB at bl⊢;refine jq (OB B b E aB 70 #[.string C,.string D]) (λ_ _=>True) x2 al bl.o.drew ?_;refine gL (λ_=>trivial) (λ_ _ _ _ _=>trivial) 0 rfl al (λK e=> ?_);refine jl al ⟨.pointer (some ⟨aB,0,none⟩),λs' hs W d=> ?_,?_⟩
 .refine aD ?_;go_simp
 go_simp;refine e _ ?_;clear e K;refine gL (λ_=>trivial) (λ_ _ _ _ _=>trivial) 1 rfl al (λK e=> ?_);refine jl al ⟨.string C,λs' hs W d=> ?_,?_⟩
 .refine aD ?_;have c:W.cell? ⟨aB,0,none⟩=some (.string C):=by rw[d.2.at_];rfl
  go_simp
 go_simp;refine e _ ?_;clear e K;refine gL (λ_=>trivial) (λ_ _ _ _ _=>trivial) 3 rfl al (λK e=> ?_);refine jl al ⟨.pointer (some ⟨aB,1,none⟩),λs' hs W d=> ?_,?_⟩
 .refine aD ?_;go_simp
 go_simp;refine e _ ?_;clear e K;refine gL (λ_=>trivial) (λ_ _ _ _ _=>trivial) 4 rfl al (λK e=> ?_);refine jl al ⟨.string D,λs' hs W d=> ?_,?_⟩
 .refine aD ?_;have c:W.cell? ⟨aB,1,none⟩=some (.string D):=by rw[d.2.at_];rfl
  go_simp
 go_simp;refine e _ ?_;clear e K;refine rJ [2] al rfl (λi hi=> ?_);obtain rfl:=ar.1 hi;clear hi;refine oz rfl al (λK e W d=> ?_);refine qr 71 #[.pointer (some ⟨b,0,none⟩),.string C] W fN ?_;refine(kE C (dp HZ.o) B b _ W d.1.1 (by first|decide|(have:=s.o;omega)) d.1.2.2).mono ?_;rintro r W' ⟨rfl,n,f⟩;refine⟨_,x3,rfl,trivial,⟨d.1.wrote (by rw[b9.o];exact n:ec B b x3 W') f,d.2.Pb f.2 (d.1.1.ne d.2 an) an⟩,e _ _ ?_⟩;clear n f W';go_simp;clear d e K W;refine rJ [5] al rfl (λi hi=> ?_);obtain rfl:=ar.1 hi;clear hi;refine oz rfl al (λK e W d=> ?_);refine qr 71 #[.pointer (some ⟨b,0,none⟩),.string D] W fN ?_;refine(kE D (dp HZ.o) B b _ W d.1.1 (by first|decide|(have:=s.o;omega)) d.1.2.2).mono ?_;rintro r W' ⟨rfl,n,f⟩;refine⟨_,x4,rfl,trivial,⟨d.1.wrote (by rw[ca.o];exact n:ec B b x4 W') f,d.2.Pb f.2 (d.1.1.ne d.2 an) an⟩,e _ _ ?_⟩;clear n f W';go_simp;clear d e K W;refine DK al ?_;intro W d;have C2:=aa d.1;clear d bl;obtain⟨bm,rfl⟩:=aP W
 go_wp2_with fail
 rw[dX];have bU:=aa (show Lay bm w.heap.size 73 PP from C2.o.keeps ad.o (by rw[aj.o];omega) an);have c4:bm.cell? ⟨w.heap.size,4,none⟩=some (.string hb):=bU.o.cell0 4 4 (by rw[Y.o];rfl) (by rw[HP.o];rfl)
 go_wp2_with fail
 refine(kE hb (dp HZ.o) B b _ bm C2.o.1 (by first|decide|(have:=s.o;omega)) C2.o.2.2).mono ?_;rintro r V3 ⟨rfl,n,f⟩;have C3:=aa (C2.o.wrote (by rw[cb.o];exact n:ec B b x5 V3) f);have bW:=aa (show Lay V3 w.heap.size 73 PP from C3.o.keeps ad.o (by rw[aj.o];omega) an);have PI:=bW.o.run 5 2 5 ((F++G).map (Value.int .u8)) (by rw[Y.o];rfl) (by rw[HP.o,cN];simp);obtain⟨PT,bb⟩:=aP (ai .u8 (F++G));rw[show((F++G).map (Value.int .u8)).toArray=PT from bb.symm]at PI;have bn:PT.size=64:=by rw[bb,ag,am,Z.o,ab.o]
 have l3:=PI.R (m:=64) bn;have r3:=PI.row (m:=64) bn;have V:=cl.o;have X:=cm.o;rw[<-bb]at V X;clear bb bn;clear n f PI c4 bU bM bO
 go_wp2_with fail
 refine gO 3 ?_;rw[dX];have aC:=Whole.new (w:=V3) (g:=V3.heap.size) (t:=22) (cs:= #[ao,ao,ao,ao,ao,ao,ao,ao,ao,ao,ao,ao,ao,ao,ao,ao,ao,ao,ao,ao,ao,ao,ao,ao,ao,ao,ao,ao,ao,ao,ao,ao]) rfl rfl;have ct:=(At.j aC).R (m:=32) rfl;have cu:=bY .u8 F 32 Z.o;have bX:=aa aC;clear aC
 go_upto_region 11 with(fail)
 refine aU (λW=>OC B b E x5 W/\Whole W V3.heap.size 22 (ai .u8 F)) ⟨OC.grow C3.o (pY _ _ _),bX.o.fill (by rw[ag,Z.o];rfl)⟩ ?_;intro V4 ⟨kC,kW⟩;have aE:=bv (P:=prog) V4 99 5 underlying99 underlying5 V3.heap.size 0 32 32 F Z.o (ey V4 _ _ F 32 kW Z.o) 9 underlying9;rw[<-cf.o]at aE;have K4:=aa kC;clear kC kW ct cu bX
 go_wp2_with fail
 refine(kE Q0 (dp bB.o) B b _ V4 K4.o.1 (dp s.o) K4.o.2.2).mono ?_;rintro r aF ⟨rfl,n,f⟩;have C4:=aa (K4.o.wrote (by rw[cc.o];exact n:ec B b x6 aF) f);clear n f aE
 go_wp2_with fail
 rw[dX];have aK:=Whole.new (w:=aF) (g:=aF.heap.size) (t:=22) (cs:= #[ao,ao,ao,ao,ao,ao,ao,ao,ao,ao,ao,ao,ao,ao,ao,ao,ao,ao,ao,ao,ao,ao,ao,ao,ao,ao,ao,ao,ao,ao,ao,ao]) rfl rfl;have cv:=(At.j aK).R (m:=32) rfl;have cw:=bY .u8 G 32 ab.o;have bZ:=aa aK;clear aK
 go_upto_region 11 with(fail)
 refine aU (λW=>OC B b E x6 W/\Whole W aF.heap.size 22 (ai .u8 G)) ⟨OC.grow C4.o (pY _ _ _),bZ.o.fill (by rw[ag,ab.o];rfl)⟩ ?_;intro V5 ⟨kC,kW⟩;have aR:=bv (P:=prog) V5 99 5 underlying99 underlying5 aF.heap.size 0 32 32 G ab.o (ey V5 _ _ G 32 kW ab.o) 9 underlying9;rw[<-cg.o]at aR;have K5:=aa kC;clear kC kW cv cw bZ
 go_wp2_with fail
 refine(kE Q1 (dp bC.o) B b _ V5 K5.o.1 (dp s.o) K5.o.2.2).mono ?_;rintro r bc ⟨rfl,n,f⟩;have C5:=aa (K5.o.wrote (by rw[cd.o];exact n:ec B b x7 bc) f);clear n f aR
 go_wp2_with fail
 rw[dX];have b0:=aa (show Lay bc w.heap.size 73 PP from C5.o.keeps ad.o (by rw[aj.o];omega) an);have TZ:=b0.o.part 7 69 (H.map (Value.int .u8)) (by rw[Y.o];rfl) (by rw[HP.o];rfl)
 have aS:=bv (P:=prog) bc 99 5 underlying99 underlying5 w.heap.size 69 32 32 H bA.o (λq hq=>by
  have:=TZ.1 q (Value.int .u8 (H.getD q 0)) (by simp[List.getD_eq_getElem?_getD,List.getElem?_eq_getElem (show q<H.length by have:=bA.o;omega)])
  first|exact this|simpa using this) 9 underlying9
 rw[<-ch.o]at aS;clear TZ V X
 go_wp2_with fail
 refine(MF QS (dp bE.o) B b _ bc C5.o.1 (dp s.o) C5.o.2.2).mono ?_;rintro r V6 ⟨rfl,n,f⟩;have C6:=aa (show OC B b E N V6 from C5.o.wrote (by rw[HX.o];exact n) f);clear n f aS
 go_wp2_with fail
 refine(fK B b N bx.o V6 (iJ.of C6.o.1) bz.o.2).mono ?_;rintro r V7 ⟨rfl,_,hA⟩;have B7:=aa (show Below w.heap.size w V7 from B0.o.trans ((C6.o.2.1.1.trans hA).below (by rw[bF.o];omega) (by rw[aj.o];omega)));have R7:=aa (show Whole V7 (w.heap.size+1) 22 #[ao,ao,ao,ao,ao,ao,ao,ao,ao,ao,ao,ao,ao,ao,ao,ao,ao,ao,ao,ao,ao,ao,ao,ao,ao,ao,ao,ao,ao,ao,ao,ao]from((C6.o.2.1.1.trans hA).block _ (by rw[bF.o];omega) (by rw[aj.o];omega)).trans cn.o);clear hA;obtain⟨S,hS⟩:=aP (strOfNums N);have bo:bI S=N:=by rw[hS];exact cJ bx.o
 rw[<-hS]
 have b1:=aa (λW g (hg:Whole W g 9 #[.string S]) (hw:dt W) (hf:dJ W)=>pL (.slice (some ⟨g,0,none⟩) 1 1) [S] W (.inr ⟨g,0,1,rfl,ak _,hg.inside,λj x hj=>by
  match j,hj with
  |0,hj=>rw[hg.at_];simpa using hj
  |j+1,hj=>simp at hj⟩) bj (by rw[eD,nf,bP,bo];have:=bz.o.1;omega) hw hf)
 rw[eD,nf,bP,bo,<-b4.o]at b1;clear hS bo
 go_wp2_with fail
 refine(b1.o _ _ (Whole.made _ _ _) (ci.o.below (B7.o.alloc B7.o.size _)) (ck.o.below (B7.o.alloc B7.o.size _))).mono ?_;rintro r V8 ⟨rfl,bp⟩;have B8:=aa ((B7.o.alloc B7.o.size (.cells #[.string S] 9)).trans (bp.mono (by simp;have:=B7.o.size;omega)));have R8:=aa ((R7.o.alloc (.cells #[.string S] 9)).below bp (R7.o.alloc _).inside);have l8:=(At.j R8.o).R (m:=32) rfl;have cB:=bY .u8 R 32 bs.o;clear bp
 go_wp2_with fail
 refine ej rfl underlying22 rfl gE (w.heap.size+1) (ai .u8 R) _ rfl rfl R8.o (by rfl) (by rw[ag,bs.o]) ⟨rfl,?_⟩;exact B8.o.grown (aG _ _ _ _) B8.o.size (λk hk=>by injection hk with hk;omega)
end Go.Proofs.P
namespace Go.Proofs.P
theorem KW(b:Bool)(c:aR)(n:Nat)(ws:aR)(d:jr ws):∀z∈aV b c n ws,0<=z/\z<=255:=by
 intro z a;unfold aV at a;rcases bT.1 a with h|h
 .exact qK _ _ _ z h
 .unfold Fi at h;cases b
  .exact ut false ws d z h
  .exact OQ _ _ _ _ z h
theorem yq(b:Bool)(a:aR)(n:Nat)(ws:aR):4<=(aV b a n ws).length:=by
 rw[jM];unfold se;omega
theorem dT(o:bB):o++(⟨#[]⟩:bB)=o:=p7 bj
theorem em(o:bB):(⟨#[]⟩:bB)++o=o:=p7 bj
theorem lA(a b c:bB):a++b++c=a++(b++c):=p7 bj
structure Live(s:aX):Prop where
 gone:s.gone=false
 peer:s.eB.peer.size≠0
 e:s.eB.e=none
structure Ev(s:aX)(ws:List Int)(up:Bool)(d:ByteArray)(s':aX):Prop where
 u8:jr ws
 pos:1<=ws.length
 aaP:ws.length<=32768
 live:Live s'
 take:∀x o,dF {s with rn:=s.rn+1,rs:=x,out:=o} (strOfNums ws)=({s' with rs:=x,out:=o++d},up,none)
structure uK where
 ws:List Int
 up:Bool
 d:ByteArray
 nx:aX
def sP:aX->List uK->Prop
 |_,[]=>True
 |s,e::r=>Ev s e.ws e.up e.d e.nx/\sP e.nx r
def chainB:aX->List uK->List Int
 |_,[]=> []
 |s,e::r=>aV s.rb s.rk s.rn e.ws++chainB e.nx r
theorem vx:∀{s:aX} {L:List uK},sP s L-> ∀z∈chainB s L,0<=z/\z<=255
 |_,[],_,z,a=>by cases a
 |s,e::r,h,z,a=>by
  rcases bT.1 (show z∈aV s.rb s.rk s.rn e.ws++chainB e.nx r from a)with b|b
  .exact KW _ _ _ _ h.1.u8 z b
  .exact vx h.2 z b
structure aab where
 at_:aX
 rest:List Int
 I6:List ByteArray
 out:ByteArray
 left:List uK
def dI:aX->List uK->Nat->aab
 |s,[],_=>⟨s,[],[],⟨#[]⟩,[]⟩
 |s,e::r,m=>
  if m<(aV s.rb s.rk s.rn e.ws).length then⟨s,(aV s.rb s.rk s.rn e.ws).take m,[],⟨#[]⟩,e::r⟩
  else
   let q:=dI e.nx r (m -(aV s.rb s.rk s.rn e.ws).length)
   ⟨q.at_,q.rest,(if e.up then[strOfNums e.ws]else[])++q.I6,e.d++q.out,q.left⟩
theorem ng{s:aX}{e:uK}{r:List uK}{m:Nat}(h:m<(aV s.rb s.rk s.rn e.ws).length):dI s (e::r) m=⟨s,(aV s.rb s.rk s.rn e.ws).take m,[],⟨#[]⟩,e::r⟩:=by
 show(if _ then _ else _)=_;rw[aJ h]
theorem jd{s:aX}{e:uK}{r:List uK}{m:Nat}(h:¬m<(aV s.rb s.rk s.rn e.ws).length):dI s (e::r) m=⟨(dI e.nx r (m -(aV s.rb s.rk s.rn e.ws).length)).at_,(dI e.nx r (m -(aV s.rb s.rk s.rn e.ws).length)).rest,(if e.up then[strOfNums e.ws]else[])++(dI e.nx r (m -(aV s.rb s.rk s.rn e.ws).length)).I6,e.d++(dI e.nx r (m -(aV s.rb s.rk s.rn e.ws).length)).out,(dI e.nx r (m -(aV s.rb s.rk s.rn e.ws).length)).left⟩:=by
 show(if _ then _ else _)=_;rw[aq h]
theorem Dh:∀{L:List uK} {s:aX} {m:Nat},sP s L->sP (dI s L m).at_ (dI s L m).left
 | [],_,_,_=>trivial
 |e::r,s,m,h=>by
  by_cases a:m<(aV s.rb s.rk s.rn e.ws).length
  .rw[ng a];exact h
  .rw[jd a];exact Dh h.2
theorem Gu:∀{L:List uK} {s:aX} {m:Nat},Live s->sP s L->Live (dI s L m).at_
 | [],_,_,a,_=>a
 |e::r,s,m,a,h=>by
  by_cases b:m<(aV s.rb s.rk s.rn e.ws).length
  .rw[ng b];exact a
  .rw[jd b];exact Gu h.1.live h.2
theorem Gw:∀{L:List uK} {s:aX} {m:Nat},m<=(chainB s L).length->(dI s L m).rest++(chainB s L).drop m=chainB (dI s L m).at_ (dI s L m).left
 | [],_,_,_=>by show[]++([]:aR).drop _= [];simp
 |e::r,s,m,h=>by
  have a:chainB s (e::r)=aV s.rb s.rk s.rn e.ws++chainB e.nx r:=rfl
  by_cases b:m<(aV s.rb s.rk s.rn e.ws).length
  .rw[ng b];show(aV s.rb s.rk s.rn e.ws).take m++_=chainB s (e::r);rw[a,gG af,<-bf,cR]
  .rw[jd b];rw[a,am]at h;have c:=Gw (L:=r) (s:=e.nx) (m:=m -(aV s.rb s.rk s.rn e.ws).length) af;show(dI e.nx r (m -(aV s.rb s.rk s.rn e.ws).length)).rest++_=chainB (dI e.nx r (m -(aV s.rb s.rk s.rn e.ws).length)).at_ (dI e.nx r (m -(aV s.rb s.rk s.rn e.ws).length)).left;rw[<-c,a,List.drop_append,fY af,eo]
theorem Mb:∀(L:List uK) (s:aX) (m k:Nat),m<=(chainB s L).length->dI s L (m+k)=
 ⟨(dI (dI s L m).at_ (dI s L m).left ((dI s L m).rest.length+k)).at_,(dI (dI s L m).at_ (dI s L m).left ((dI s L m).rest.length+k)).rest,(dI s L m).I6++(dI (dI s L m).at_ (dI s L m).left ((dI s L m).rest.length+k)).I6,(dI s L m).out++(dI (dI s L m).at_ (dI s L m).left ((dI s L m).rest.length+k)).out,(dI (dI s L m).at_ (dI s L m).left ((dI s L m).rest.length+k)).left⟩
 | [],s,m,k,_=>by show(⟨s,[],[],⟨#[]⟩,[]⟩:aab)=⟨s,[],[]++ [],⟨#[]⟩++⟨#[]⟩,[]⟩;rw[dT];rfl
 |e::r,s,m,k,h=>by
  have b:chainB s (e::r)=aV s.rb s.rk s.rn e.ws++chainB e.nx r:=rfl
  by_cases a:m<(aV s.rb s.rk s.rn e.ws).length
  .rw[ng a];have c:((aV s.rb s.rk s.rn e.ws).take m).length=m:=by rw[List.length_take];omega
   dsimp only;rw[c,List.nil_append,em]
  .rw[b,List.length_append]at h;have d:=Mb r e.nx (m -(aV s.rb s.rk s.rn e.ws).length) k af;rw[jd a,jd (m:=m+k) af];dsimp only;rw[show m+k -(aV s.rb s.rk s.rn e.ws).length=m -(aV s.rb s.rk s.rn e.ws).length+k by omega,d];dsimp only;rw[List.append_assoc,lA]
end Go.Proofs.P
namespace Go.Spk
theorem GT(c:UInt8):∀x:List UInt8,c∉x->Lib.index x [c]= -1
 | [],_=>by rw[Lib.index];simp
 |b::l,h=>by
  have a:¬c=b:=λe=>h (by simp[e]);have d:([c]:List UInt8).isPrefixOf (b::l)=false:=by simp[List.isPrefixOf,a]
  have f:=GT c l (λe=>h (cj _ e));rw[Lib.index,d,f];simp
theorem Qp(c:UInt8)(x:List UInt8)(h:c∉x):Lib.cut x [c]=(x,[],false):=by
 unfold Lib.cut;rw[GT c x h,aq af]
theorem O0(x:List UInt8)(c:UInt8):Lib.trimSuffix (x++ [c]) [c]=x:=by
 have h:Lib.hasSuffix (x++ [c]) [c]=true:=List.isSuffixOf_iff_suffix.2 ⟨x,rfl⟩;unfold Lib.trimSuffix;rw[h];simp
theorem Na(l:List UInt8):(strOfNums (l.map λb=>(b.toNat:Int))).data.toList=l:=by
 rw[strOfNums_data,List.map_map]
 conv=>rhs;rw[<-List.map_id l]
 apply nO;intro b _;simp
end Go.Spk
namespace Go.Proofs.P
theorem J0(n:Nat)(h:pV)(t:bB)(c:(10:UInt8)∉t.data.toList)(d:h.peer.size=0)(he:h.e=none)(a:(h.part++t).size<255):
 lP (n+1) h t=({h with part:=h.part++t},⟨#[]⟩,none):=by
 have b:=Qp 10 t.data.toList c
 have c1:me t ⟨#[10]⟩=t:=by
  have e:(⟨(Lib.cut t.data.toList [10]).1.toArray⟩:ByteArray)=t:=by rw[b]
  exact e
 have c3:zr t ⟨#[10]⟩=false:=by unfold zr;show(Lib.cut t.data.toList [10]).2.2=false;rw[b]
 show(if h.peer.size≠0\/h.e≠none then _ else _)=_;rw[aq (by rw[d,he];simp),c1,aq af,c3,aJ rfl]
theorem J1(n:Nat)(h:pV)(L r t p:bB)(d:t.data.toList=L.data.toList++10::r.data.toList)(f:(10:UInt8)∉L.data.toList)(g:h.peer.size=0)(he:h.e=none)(c:(h.part++L).size<255)
 (hv:kv {h with part:=h.part++L} ⟨(Lib.trimSuffix (h.part++L).data.toList [13]).toArray⟩=({h with part:=h.part++L,peer:=p},none)) (b:p.size≠0):
 lP (n+2) h t=({h with part:=⟨#[]⟩,peer:=p,e:=none},r,none):=by
 have a:=Gt 10 L.data.toList r.data.toList f;rw[<-d]at a;have c1:me t ⟨#[10]⟩=L:=by unfold me;show(⟨(Lib.cut t.data.toList [10]).1.toArray⟩:ByteArray)=L;rw[a]
 have c2:Ci t ⟨#[10]⟩=r:=by unfold Ci;show(⟨(Lib.cut t.data.toList [10]).2.1.toArray⟩:ByteArray)=r;rw[a]
 have c3:zr t ⟨#[10]⟩=true:=by unfold zr;show(Lib.cut t.data.toList [10]).2.2=true;rw[a]
 show(if h.peer.size≠0\/h.e≠none then _ else _)=_;rw[if_neg (by rw[g,he];simp),c1,if_neg af,c3,if_neg bj,c2];dsimp only;rw[hv];show(if p.size≠0\/(none:Option Nat)≠none then _ else _)=_;rw[if_pos (.inl b)]
structure mc where
 s0:aX
 ln:ByteArray
 L:List uK
def mc.s1(t:mc):aX:={t.s0 with eB:={t.s0.eB with peer:=t.ln}}
def mc.head(t:mc):List UInt8:=t.ln.data.toList++ [13]
def mc.all(t:mc):List Int:=(t.head.map λb=>(b.toNat:Int))++10::chainB t.s1 t.L
structure mc.Ok(t:mc):Prop where
 part:t.s0.eB.part=⟨#[]⟩
 peer:t.s0.eB.peer=⟨#[]⟩
 e:t.s0.eB.e=none
 gone:t.s0.gone=false
 rs:t.s0.rs=⟨#[]⟩
 lf:(10:UInt8)∉t.ln.data.toList
 Nu:t.ln.size<250
 ne:t.ln.size≠0
 line:∀h:pV,kv h t.ln=({h with peer:=t.ln},none)
 chain:sP t.s1 t.L
def mc.at_(t:mc)(y:Nat):aX:=
 if y<=t.head.length then{t.s0 with eB:={t.s0.eB with part:=⟨(t.head.take y).toArray⟩}}
 else{(dI t.s1 t.L (y -(t.head.length+1))).at_ with rs:=strOfNums (dI t.s1 t.L (y -(t.head.length+1))).rest}
def mc.out(t:mc)(y:Nat):ByteArray:=if y<=t.head.length then⟨#[]⟩else(dI t.s1 t.L (y -(t.head.length+1))).out
def mc.I6(t:mc)(y:Nat):List ByteArray:=if y<=t.head.length then[]else(dI t.s1 t.L (y -(t.head.length+1))).I6
theorem mc.Aq(t:mc):t.all.length=t.head.length+1+(chainB t.s1 t.L).length:=by
 unfold mc.all;rw[am,aM,fw];omega
theorem mc.Wg{t:mc}(h:t.Ok):Live t.s1:=⟨h.gone,h.ne,h.e⟩
theorem mc.UY{t:mc}(h:t.Ok):(10:UInt8)∉t.head:=λb=>by
 rcases bT.1 b with a|a
 .exact h.lf a
 .revert a;decide
end Go.Proofs.P
