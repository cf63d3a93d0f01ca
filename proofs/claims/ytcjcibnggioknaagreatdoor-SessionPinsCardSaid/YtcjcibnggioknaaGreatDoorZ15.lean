/- Lemmas on which SessionPins rests. -/
import Derived.Test.YtcjcibnggioknaaGreatDoorZ13
import Derived.Test.YtcjcibnggioknaaGreatDoorZ14
set_option maxRecDepth 100000
set_option maxHeartbeats 40000000
set_option linter.unusedVariables false
open Go.RowKit Go.Spk
open Go.Proofs.Tryz
namespace Go.Proofs.P
def av:List Int:=List.replicate 32 0
def Kf:ByteArray:=⟨#[99,117,114,118,101,50,53,53,49,57,45,115,104,97,50,53,54]⟩
def mM:ByteArray:=⟨#[115,115,104,45,101,100,50,53,53,49,57]⟩
def Jg:ByteArray:=⟨#[99,104,97,99,104,97,50,48,45,112,111,108,121,49,51,48,53]⟩
def oW:ByteArray:=⟨#[110,111,110,101]⟩
def iZ(a:List Int):de:=⟨20,[0],[strOfNums a],[[Kf],[mM],[Jg],[Jg],[oW],[oW],[oW],[oW],[],[]],[false]⟩
def lB(c s:List ByteArray):Option ByteArray:=c.find? λx=>Lib.containsS s x
def pd(own a:de):Bool:=own.B.headD false&& !(((own.N.getD 0 []).take 1==(a.N.getD 0 []).take 1)&&((own.N.getD 1 []).take 1==(a.N.getD 1 []).take 1))
def o0(c s:de)(i:Nat):Option ByteArray:=lB (c.N.getD i []) (s.N.getD i [])
def io(c s:de):Option (Bool×Bool):=
 match o0 c s 0,o0 c s 1,o0 c s 2,o0 c s 3,o0 c s 6,o0 c s 7 with
 |some _,some _,some a,some b,some _,some _=>
  if(a=Jg\/(o0 c s 4).isSome=true)/\(b=Jg\/(o0 c s 5).isSome=true)then some (pd c s,pd s c)else none
 |_,_,_,_,_,_=>none
structure CU where
 xL:ByteArray
 xM:ByteArray
 skip:Bool
 draw:List Int
 asked:Bool
 done:Bool
 l0:ByteArray
 l1:ByteArray
 i0:ByteArray
 i1:ByteArray
 hb:ByteArray
 p0:List Int
 p1:List Int
 sec:List Int
 k0:List Int
 k1:List Int
 yC:Bool
 iD:Bool
 eN:Bool
 hash:List Int
 key:List Int
def ti:CU:=⟨⟨#[]⟩,⟨#[]⟩,false,av,false,false,⟨#[]⟩,⟨#[]⟩,⟨#[]⟩,⟨#[]⟩,⟨#[]⟩,av,av,av,av,av,false,false,false,av,av⟩
def gN(l:List Int):List Int:=qJ l.length 4 4++l
def QZ(x:CU):List Int:=cG x.l0++cG x.l1++cG x.i0++cG x.i1++cG x.hb++gN x.p0++gN x.p1++gN (vY x.sec)
def fQ(x:CU):List Int:=mj false (QZ x)
def iu(sec hash id:List Int)(a:Int):List Int:=mj false (gN (vY sec)++hash++ [a]++id)
def dA(k:Nat):Addr:=⟨k,0,none⟩
def ku(E:Nat->Addr):iV->iV
 | .ok s=> .ok s
 | .bad a=> .bad (E a.block)
theorem Aa(E:gn)(k n:Nat)(b:iV):gj (E k) n (ku E b)=((gj (dA k) n b).1,ku E (gj (dA k) n b).2):=by
 cases b with
 |bad a=>rfl
 |ok s=>
  show gj (E k) n (.ok s)=_
  by_cases h:n<=s.size
  .rw[qV h,qV h];rfl
  .rw[uF h,uF h];rfl
theorem zU(E:gn)(k n:Nat)(a:iV):eT (E k) n (ku E a)=((eT (dA k) n a).1,ku E (eT (dA k) n a).2):=by
 unfold eT;rw[Aa]
theorem Uf(E:gn)(k:Nat)(n:Int)(m:Nat)(b:iV):xT (E k) n m (ku E b)=ku E (xT (dA k) n m b):=by
 cases b with
 |bad a=>rfl
 |ok s=>
  show(if(m:Int)<n then iV.bad (E k)else .ok s)=ku E (if(m:Int)<n then iV.bad (dA k)else .ok s)
  split<;>rfl
theorem xq(E:gn)(k j n:Nat)(a:iV):fh (E k) (E j) n (ku E a)=((fh (dA k) (dA j) n a).1,ku E (fh (dA k) (dA j) n a).2):=by
 unfold fh;rw[zU,Uf,Aa]
theorem QD(E:gn)(k:Nat)(a:iV):AJ (E k) (ku E a)=ku E (AJ (dA k) a):=by cases a<;>rfl
theorem Oj(E:gn)(k j i:Nat)(a:iV):gg (E k) (E j) (E i) (ku E a)=((gg (dA k) (dA j) (dA i) a).1,ku E (gg (dA k) (dA j) (dA i) a).2):=by
 unfold gg;rw[xq];dsimp only;rw[QD]
 split
 .rfl
 .split<;>rfl
theorem Mh(E:gn)(k:Nat)(b:iV):wy (E k) (ku E b)=ku E (wy (dA k) b):=by
 cases b with
 |bad a=>rfl
 |ok s=>
  show(if s.size=0 then iV.ok s else .bad (E k))=ku E (if s.size=0 then iV.ok s else .bad (dA k))
  split<;>rfl
theorem Vs(E:gn)(a:iV):(ku E a).left=a.left:=by cases a<;>rfl
theorem ZC(E:gn)(k j i:Nat)(c:Int)(a:iV)(m:de):Ld (E k) (E j) (E i) c (ku E a,m)=(ku E (Ld (dA k) (dA j) (dA i) c (a,m)).1,(Ld (dA k) (dA j) (dA i) c (a,m)).2):=by
 unfold Ld;dsimp only;rw[zU,zU,xq,Oj,Aa,Vs,Aa]
 split
 .rfl
 .split
  .rfl
  .split
   .rfl
   .split
    .rfl
    .split<;>rfl
theorem Iy(E:Nat->Addr)(k j i:Nat):∀(L:List Int) (a:iV) (m:de),ny (E k) (E j) (E i) L (ku E a,m)=(ku E (ny (dA k) (dA j) (dA i) L (a,m)).1,(ny (dA k) (dA j) (dA i) L (a,m)).2)
 | [],_,_=>rfl
 |c::r,a,m=>by rw[ql,ql,ZC,Iy E k j i r]
def fk(s:ByteArray):de ⊕ Nat:=match rh (dA 1) (dA 3) (dA 2) (dA 19) s with
 | .inl m=> .inl m
 | .inr a=> .inr a.block
def toE(E:Nat->Addr):de ⊕ Nat->de ⊕ Addr
 | .inl m=> .inl m
 | .inr k=> .inr (E k)
theorem Io(E:gn)(s:bB):rh (E 1) (E 3) (E 2) (E 19) s=toE E (fk s):=by
 unfold fk rh;have b:=zU E 1 1 (.ok s);rw[show ku E (.ok s)= .ok s from rfl]at b;rw[b];generalize eT (dA 1) 1 (.ok s)=r;obtain⟨k,d⟩:=r;cases d with
 |bad a=>rfl
 |ok t=>
  rw[show ku E (.ok t)= .ok t from rfl];dsimp only;cases e:dh k with
  |none=>rfl
  |some f=>
   dsimp only;have c:=Iy E 1 3 2 (bI f) (.ok t) (kD k);rw[show ku E (.ok t)= .ok t from rfl]at c;rw[c];dsimp only;rw[Mh];cases wy (dA 2) (ny (dA 1) (dA 3) (dA 2) (bI f) (.ok t,kD k)).1<;>rfl
theorem Ou{s}{m}(h:fk s= .inl m):rh (dA 1) (dA 3) (dA 2) (dA 19) s= .inl m:=by
 unfold fk at h
 split at h
 .rename_i b a;injection h with h;subst h;exact a
 .cases h
theorem dZ{m}(h:Cb m):fk (db m)= .inl m:=by unfold fk;rw[Ow _ _ _ _ h]
theorem yp{s}{m}(a:s.size<=32768)(h:fk s= .inl m):Cb m:=Ov a (Ou h)
theorem KU{s}{k}(h:fk s= .inr k):k=1\/k=2\/k=3\/k=19:=by
 have b:=Io (λi=>if i=1\/i=2\/i=3\/i=19 then dA i else dA 1) s;rw[h]at b;have d:rh (dA 1) (dA 3) (dA 2) (dA 19) s= .inr (if k=1\/k=2\/k=3\/k=19 then dA k else dA 1):=b;have a:fk s= .inr (if k=1\/k=2\/k=3\/k=19 then dA k else dA 1).block:=by unfold fk;rw[d]
 rw[h]at a;injection a with a
 by_cases c:k=1\/k=2\/k=3\/k=19
 .exact c
 .rw[aq c]at a;exact .inl a
def fy(s:ByteArray)(size b:Nat):ByteArray ⊕ Nat:=
 let d:=fh (dA 1) (dA 3) s.size (.ok s)
 let c:=fh (dA 1) (dA 3) s.size d.2
 match wy (dA 2) c.2 with
 | .bad a=> .inr a.block
 | .ok _=>if d.1=mM/\c.1.size=size then .inl c.1 else .inr b
structure aX where
 cl:Bool
 soft:ByteArray
 pm:ByteArray
 host:List Int
 rZ:List Int
 every:Int
 eB:pV
 line:ByteArray
 wn:Nat
 wb:Bool
 wk:List Int
 rn:Nat
 rb:Bool
 rk:List Int
 rs:ByteArray
 out:ByteArray
 on:CU
 c7:Nat
 id:List Int
 key:List Int
 waits:List ByteArray
 since:Nat
 gone:Bool
def nR(s:aX)(p:ByteArray):aX:={s with out:=s.out++strOfNums (aV s.wb s.wk s.wn (bI p)),wn:=s.wn+1,since:=s.since+1}
def l6(s:aX)(m:de):aX:=nR s (db m)
def oG:List Int:= [99,111,111,107,105,101]
def mC:List Int:= [112,111,105,110,116]
def nQ(s:aX)(a:List Int)(n:Nat):List Int:=eP (bI s.pm) (a++ [(s.c7:Int) %256]) n
def km(s:aX):aX:=
 let m:=iZ (nQ s oG 16)
 l6 {s with on:=if s.cl then{s.on with xL:=db m,iD:=true}else{s.on with xM:=db m,iD:=true}} m
def x9(s:aX):Bool:=s.on.iD||s.on.eN
def oA(f:Bool)(a d:ByteArray)(host e:List Int)(c:Int):aX:=
 let b:=fH++a
 km ⟨f,a,d,host,e,c,⟨⟨#[]⟩,if f then 16 else 0,⟨#[]⟩,none⟩,b,0,false,av,0,false,av,⟨#[]⟩,b++iL,ti,0,av,av,[],0,false⟩
def EJ(s:aX)(a:Nat):aX:=if s.gone then s else{l6 s ⟨1,[a],[⟨#[]⟩,⟨#[]⟩],[],[]⟩with gone:=true}
def pJ(k:Nat):Nat:=if k=11 then 8 else if k=4 then 5 else if k=13 then 9 else if k=12\/k=9\/k=10 then 3 else 2
def jy(s:aX)(k:Nat):aX:=if k=17 then{s with gone:=true}else{EJ s (pJ k)with gone:=true}
def lV:Nat->aX->aX
 |0,s=>s
 |n+1,s=>
  if s.gone=false/\0<s.c7/\s.on.iD=false then
   match s.waits with
   | []=>s
   |p::r=>
    let s1:={nR s p with waits:=r}
    lV n (if 0<s1.every/\s1.every<=s1.since/\x9 s1=false then km s1 else s1)
  else s
def jj(s:aX)(m:de):aX×Option Nat:=
 if s.on.eN then(s,some 5)
 else
  let s1:={s with on:=if s.cl then{s.on with xM:=db m,eN:=true}else{s.on with xL:=db m,eN:=true}}
  let s2:=if s1.on.iD then s1 else km s1
  match fk (if s.cl then s2.on.xL else s2.on.xM)with
  | .inr k=>(s2,some k)
  | .inl own=>match (if s.cl then io own m else io m own)with
   |none=>(s2,some 12)
   |some (a,b)=>
    let d:=nQ s2 mC 32
    if s.cl then
     (l6 {s2 with on:={s2.on with skip:=b,draw:=d,asked:=true,l0:=s2.line,l1:=s2.eB.peer,i0:=s2.on.xL,i1:=s2.on.xM,hb:=⟨#[]⟩,p0:=mJ d,p1:=av,sec:=av}} ⟨30,[],[strOfNums (mJ d)],[],[]⟩,none)
    else
     ({s2 with on:={s2.on with skip:=a,draw:=d,l0:=s2.eB.peer,l1:=s2.line,i0:=s2.on.xL,i1:=s2.on.xM,hb:=⟨#[]⟩,p0:=av,p1:=mJ d,sec:=av}},none)
def gZ(s:aX)(p:ByteArray):aX×Option Nat:=
 if p.size≠32 then(s,some 2)
 else
  let x:=di s.on.draw (bI p)
  ({s with on:=if s.cl then{s.on with p1:=bI p,sec:=if x=0 then av else eE x}else{s.on with p0:=bI p,sec:=if x=0 then av else eE x}},if x=0 then some 9 else none)
def jH(s:aX)(key:List Int):aX:=
 let h:=fQ s.on
 let id:=if s.c7=0 then h else s.id
 let k0:=iu s.on.sec h id 67
 let k1:=iu s.on.sec h id 68
 let s1:=l6 {s with on:={s.on with done:=true,key:=key,hash:=h,k0:=k0,k1:=k1}} ⟨21,[],[],[],[]⟩
 {s1 with wb:=true,wk:=if s.cl then k0 else k1,on:={s1.on with yC:=true}}
def dB(l:List Int):ByteArray:=strOfNums (cG mM++gN l)
def fE(s:aX)(m:de):aX×Option Nat:=
 if s.cl=true\/s.on.eN=false\/s.on.done=true then(s,some 5)
 else
  match gZ s (m.S.headD ⟨#[]⟩)with
  |(s1,some k)=>(s1,some k)
  |(s1,none)=>
   let key:=lX s1.host
   let s2:={s1 with on:={s1.on with hb:=dB key}}
   (jH (l6 s2 ⟨31,[],[dB key,strOfNums s2.on.p1,dB (qX s2.host (fQ s2.on))],[],[]⟩) key,none)
def fV(s:aX)(m:de):aX×Option Nat:=
 if s.on.asked=false\/s.on.done=true then(s,some 5)
 else match fy (m.S.getD 0 ⟨#[]⟩) 32 9 with
  | .inr k=>(s,some k)
  | .inl a=>match fy (m.S.getD 2 ⟨#[]⟩) 64 10 with
   | .inr k=>(s,some k)
   | .inl b=>match gZ s (m.S.getD 1 ⟨#[]⟩)with
    |(s1,some k)=>(s1,some k)
    |(s1,none)=>
     let s2:={s1 with on:={s1.on with hb:=m.S.getD 0 ⟨#[]⟩}}
     if bI a≠s2.rZ then(s2,some 13)
     else if je (bI a) (fQ s2.on) (bI b)=false then(s2,some 10)
     else(jH s2 (bI a),none)
def nG(s:aX):aX×Option Nat:=
 if s.on.yC=false then(s,some 5)
 else
  let s1:={s with rb:=true,rk:=if s.cl then s.on.k1 else s.on.k0,id:=if s.c7=0 then s.on.hash else s.id,key:=s.on.key,c7:=s.c7+1,on:=ti,since:=0}
  (lV s1.waits.length s1,none)
def dF(s:aX)(p:ByteArray):aX×Bool×Option Nat:=
 if s.on.skip then({s with on:={s.on with skip:=false}},false,none)
 else match fk p with
  | .inr k=>if k=19 then(l6 s ⟨3,[(s.rn -1) %4294967296],[],[],[]⟩,false,none)else(s,false,some k)
  | .inl m=>
   if m.kind=1 then(s,false,some 17)
   else if m.kind=2\/m.kind=3\/m.kind=4 then(s,false,none)
   else if m.kind=20 then((jj s m).1,false,(jj s m).2)
   else if m.kind=30 then((fE s m).1,false,(fE s m).2)
   else if m.kind=31 then((fV s m).1,false,(fV s m).2)
   else if m.kind=21 then((nG s).1,false,(nG s).2)
   else if s.c7=0\/s.on.eN=true then(s,false,some 5)
   else(s,true,none)
structure Env(w:World)(E:Nat->Addr):Prop where
 gY:ts w E
 rows:m0 w
 pX:w.rangeAt 25 0 (fG.map (Value.int .u32))
 order:w.rangeAt 26 0 j9
 words:dt w
 first:dJ w
 ord:jS w
 max:∃mx:Int,w.cell? ⟨24,0,none⟩=some (.int .i64 mx)
theorem Env.below{w w'}{E}(h:Env w E)(a:Below w.heap.size w w'):Env w' E:=
 ⟨h.gY.below a,h.rows.below a,cT h.pX a,cT h.order a,cT h.words a,cT h.first a,cT h.ord a,by
  obtain⟨c,b⟩:=h.max;exact⟨c,(a.cell (aH b)).trans b⟩⟩
def dn(l:List Int):Prop:=l.length=32/\jr l
theorem dn.av:dn av:=⟨rfl,cm an⟩
structure bC(s:aX):Prop where
 host:dn s.host
 rZ:dn s.rZ
 wk:dn s.wk
 rk:dn s.rk
 iv:dn s.on.draw
 nv:dn s.on.p0
 mh:dn s.on.p1
 iH:dn s.on.sec
 lQ:dn s.on.k0
 lR:dn s.on.k1
 gA:dn s.on.hash
 iG:dn s.on.key
 id:dn s.id
 key:dn s.key
def eY(gh:Nat)(vw re e:Value)(s:aX):List (List Value):=
 [[.bool s.cl],
  [.string s.soft],
  [.string s.pm],
  (s.host).map (Value.int .u8),
  (s.rZ).map (Value.int .u8),
  [.int .i64 s.every],
  [.int .i64 (if s.cl then 0 else 1)],
  [.pointer (some ⟨gh,0,none⟩)],
  [.string s.line],
  [.int .u64 (s.wn:Nat)],
  [.bool s.wb],
  (s.wk).map (Value.int .u8),
  [.int .u64 (s.rn:Nat)],
  [.bool s.rb],
  (s.rk).map (Value.int .u8),
  [.string s.rs],
  [re],
  [.string s.out],
  [.string s.on.xL],
  [.string s.on.xM],
  [.bool s.on.skip],
  (s.on.draw).map (Value.int .u8),
  [.bool s.on.asked],
  [.bool s.on.done],
  [.string s.on.l0],
  [.string s.on.l1],
  [.string s.on.i0],
  [.string s.on.i1],
  [.string s.on.hb],
  (s.on.p0).map (Value.int .u8),
  (s.on.p1).map (Value.int .u8),
  (s.on.sec).map (Value.int .u8),
  (s.on.k0).map (Value.int .u8),
  (s.on.k1).map (Value.int .u8),
  [.bool s.on.yC],
  [.bool s.on.iD],
  [.bool s.on.eN],
  (s.on.hash).map (Value.int .u8),
  (s.on.key).map (Value.int .u8),
  [.int .i64 (s.c7:Nat)],
  (s.id).map (Value.int .u8),
  (s.key).map (Value.int .u8),
  [vw],
  [.int .i64 (s.since:Nat)],
  [e]]
def FA:List Nat:= [1,1,1,32,32,1,1,1,1,1,1,32,1,1,32,1,1,1,1,1,1,32,1,1,1,1,1,1,1,32,32,32,32,32,1,1,1,32,32,1,32,32,1,1,1]
theorem iQ{gh}{vw re e}{s}(h:bC s):(eY gh vw re e s).map List.length=FA:=by
 unfold eY FA;simp only[List.map_cons,List.map_nil,List.length_map,h.host.1,h.rZ.1,h.wk.1,h.rk.1,h.iv.1,h.nv.1,h.mh.1,h.iH.1,h.lQ.1,h.lR.1,h.gA.1,h.iG.1,h.id.1,h.key.1,List.length_cons,List.length_nil]
def cP(w:World)(g gh:Nat)(vw re e:Value)(s:aX):Prop:=Lay w g 77 (eY gh vw re e s)
section
variable {w:World}{g gh:Nat}{vw re e:Value}{s:aX}
theorem cP.tW(h:bC s)(i o:Nat)(a:kj FA i=o):kj ((eY gh vw re e s).map List.length) i=o:=by rw[iQ h];exact a
theorem cP.Yg(h:cP w g gh vw re e s)(a:bC s):w.cell? ⟨g,2,none⟩=some (.string s.pm):=Lay.cell0 h 2 2 (v:= .string s.pm) (cP.tW (gh:=gh) (vw:=vw) (re:=re) (e:=e) a 2 2 an) al
theorem cP.Uo(h:cP w g gh vw re e s)(a:bC s):w.cell? ⟨g,67,none⟩=some (.int .i64 s.every):=Lay.cell0 h 5 67 (v:= .int .i64 s.every) (cP.tW (gh:=gh) (vw:=vw) (re:=re) (e:=e) a 5 67 an) al
theorem cP.uu(h:cP w g gh vw re e s)(a:bC s):w.cell? ⟨g,69,none⟩=some (.pointer (some ⟨gh,0,none⟩)):=Lay.cell0 h 7 69 (v:= .pointer (some ⟨gh,0,none⟩)) (cP.tW (gh:=gh) (vw:=vw) (re:=re) (e:=e) a 7 69 an) al
theorem cP.abO(h:cP w g gh vw re e s)(a:bC s):w.cell? ⟨g,105,none⟩=some (.int .u64 (s.rn:Nat)):=Lay.cell0 h 12 105 (v:= .int .u64 (s.rn:Nat)) (cP.tW (gh:=gh) (vw:=vw) (re:=re) (e:=e) a 12 105 an) al
theorem cP.Wn(h:cP w g gh vw re e s)(b:bC s)(x:bB):cP (w.setCell ⟨g,139,none⟩ (.string x)) g gh vw re e {s with rs:=x}:=by
 have c:Lay w g 77 (eY gh vw re e s):=h;have a:=c.SI 15 139 (.string s.rs) (.string x) (cP.tW b 15 139 an) al;have d:(eY gh vw re e s).set 15 ([.string x])=eY gh vw re e {s with rs:=x}:=al;rw[d]at a;exact a
theorem cP.Xt(h:cP w g gh vw re e s)(a:bC s):w.cell? ⟨g,141,none⟩=some (.string s.out):=Lay.cell0 h 17 141 (v:= .string s.out) (cP.tW (gh:=gh) (vw:=vw) (re:=re) (e:=e) a 17 141 an) al
theorem cP.zd(h:cP w g gh vw re e s)(b:bC s)(x:bB):cP (w.setCell ⟨g,141,none⟩ (.string x)) g gh vw re e {s with out:=x}:=by
 have c:Lay w g 77 (eY gh vw re e s):=h;have a:=c.SI 17 141 (.string s.out) (.string x) (cP.tW b 17 141 an) al;have d:(eY gh vw re e s).set 17 ([.string x])=eY gh vw re e {s with out:=x}:=al;rw[d]at a;exact a
theorem cP.P5(h:cP w g gh vw re e s)(a:bC s):w.cell? ⟨g,344,none⟩=some (.bool s.on.yC):=Lay.cell0 h 34 344 (v:= .bool s.on.yC) (cP.tW (gh:=gh) (vw:=vw) (re:=re) (e:=e) a 34 344 an) al
theorem cP.Df(h:cP w g gh vw re e s)(a:bC s):w.cell? ⟨g,345,none⟩=some (.bool s.on.iD):=Lay.cell0 h 35 345 (v:= .bool s.on.iD) (cP.tW (gh:=gh) (vw:=vw) (re:=re) (e:=e) a 35 345 an) al
theorem cP.NC(h:cP w g gh vw re e s)(a:bC s):w.cell? ⟨g,346,none⟩=some (.bool s.on.eN):=Lay.cell0 h 36 346 (v:= .bool s.on.eN) (cP.tW (gh:=gh) (vw:=vw) (re:=re) (e:=e) a 36 346 an) al
theorem cP.L5(h:cP w g gh vw re e s)(a:bC s):w.cell? ⟨g,411,none⟩=some (.int .i64 (s.c7:Nat)):=Lay.cell0 h 39 411 (v:= .int .i64 (s.c7:Nat)) (cP.tW (gh:=gh) (vw:=vw) (re:=re) (e:=e) a 39 411 an) al
theorem cP.Uq(h:cP w g gh vw re e s)(a:bC s):w.cell? ⟨g,476,none⟩=some (vw):=Lay.cell0 h 42 476 (v:=vw) (cP.tW (gh:=gh) (vw:=vw) (re:=re) (e:=e) a 42 476 an) al
theorem cP.acj(h:cP w g gh vw re e s)(b:bC s)(x:cH):cP (w.setCell ⟨g,476,none⟩ x) g gh x re e s:=by
 have c:Lay w g 77 (eY gh vw re e s):=h;have a:=c.SI 42 476 vw x (cP.tW b 42 476 an) al;have d:(eY gh vw re e s).set 42 ([x])=eY gh x re e s:=al;rw[d]at a;exact a
theorem cP.Up(h:cP w g gh vw re e s)(a:bC s):w.cell? ⟨g,477,none⟩=some (.int .i64 (s.since:Nat)):=Lay.cell0 h 43 477 (v:= .int .i64 (s.since:Nat)) (cP.tW (gh:=gh) (vw:=vw) (re:=re) (e:=e) a 43 477 an) al
theorem cP.Wo(h:cP w g gh vw re e s)(b:bC s)(x:Nat):cP (w.setCell ⟨g,477,none⟩ (.int .i64 (x:Nat))) g gh vw re e {s with since:=x}:=by
 have c:Lay w g 77 (eY gh vw re e s):=h;have a:=c.SI 43 477 (.int .i64 (s.since:Nat)) (.int .i64 (x:Nat)) (cP.tW b 43 477 an) al;have d:(eY gh vw re e s).set 43 ([.int .i64 (x:Nat)])=eY gh vw re e {s with since:=x}:=al;rw[d]at a;exact a
theorem cP.Xs(h:cP w g gh vw re e s)(a:bC s):w.cell? ⟨g,478,none⟩=some (e):=Lay.cell0 h 44 478 (v:=e) (cP.tW (gh:=gh) (vw:=vw) (re:=re) (e:=e) a 44 478 an) al
theorem cP.s_e(h:cP w g gh vw re e s)(b:bC s)(x:cH):cP (w.setCell ⟨g,478,none⟩ x) g gh vw re x s:=by
 have c:Lay w g 77 (eY gh vw re e s):=h;have a:=c.SI 44 478 e x (cP.tW b 44 478 an) al;have d:(eY gh vw re e s).set 44 ([x])=eY gh vw re x s:=al;rw[d]at a;exact a
theorem bC.ack(a:bC s)(x:Nat):bC {s with wn:=x}:=⟨a.host,a.rZ,a.wk,a.rk,a.iv,a.nv,a.mh,a.iH,a.lQ,a.lR,a.gA,a.iG,a.id,a.key⟩
theorem bC.Wn(a:bC s)(x:bB):bC {s with rs:=x}:=⟨a.host,a.rZ,a.wk,a.rk,a.iv,a.nv,a.mh,a.iH,a.lQ,a.lR,a.gA,a.iG,a.id,a.key⟩
theorem bC.zd(a:bC s)(x:bB):bC {s with out:=x}:=⟨a.host,a.rZ,a.wk,a.rk,a.iv,a.nv,a.mh,a.iH,a.lQ,a.lR,a.gA,a.iG,a.id,a.key⟩
end
end Go.Proofs.P
namespace Go.Spk
theorem GQ(c:UInt8)(r:List UInt8):∀x:List UInt8,c∉x->Lib.index (x++c::r) [c]=((x.length:Nat):Int)
 | [],_=>by rw[eo,Lib.index];simp[List.isPrefixOf]
 |b::l,h=>by
  have a:¬c=b:=λe=>h (by simp[e]);have d:([c]:List UInt8).isPrefixOf (b::(l++c::r))=false:=by simp[List.isPrefixOf,a]
  have f:=GQ c r l (λe=>h (cj _ e));show Lib.index (b::(l++c::r)) [c]=_;rw[Lib.index,d,f];simp
theorem Gt(c:UInt8)(x r:List UInt8)(h:c∉x):Lib.cut (x++c::r) [c]=(x,r,true):=by
 unfold Lib.cut;rw[GQ c r x h,aJ af];simp
theorem p7{a b:bB}(h:a.data.toList=b.data.toList):a=b:=by
 obtain⟨a⟩:=a;obtain⟨b⟩:=b;congr 1;exact tr h
end Go.Spk
namespace Go.Proofs.P
theorem YI(n:Nat)(h:pV)(L r t p:bB)(d:t.data.toList=L.data.toList++10::r.data.toList)(f:(10:UInt8)∉L.data.toList)(g:h.peer.size=0)(he:h.e=none)(i:h.part=⟨#[]⟩)(c:L.size<255)
 (hv:kv {h with part:=L} ⟨(Lib.trimSuffix L.data.toList [13]).toArray⟩=({h with part:=L,peer:=p},none)) (b:p.size≠0):
 lP (n+2) h t=({h with part:=⟨#[]⟩,peer:=p,e:=none},r,none):=by
 have a:=Gt 10 L.data.toList r.data.toList f;rw[<-d]at a;have c1:me t ⟨#[10]⟩=L:=by unfold me;show(⟨(Lib.cut t.data.toList [10]).1.toArray⟩:ByteArray)=L;rw[a]
 have c2:Ci t ⟨#[10]⟩=r:=by unfold Ci;show(⟨(Lib.cut t.data.toList [10]).2.1.toArray⟩:ByteArray)=r;rw[a]
 have c3:zr t ⟨#[10]⟩=true:=by unfold zr;show(Lib.cut t.data.toList [10]).2.2=true;rw[a]
 have j:h.part++L=L:=by rw[i];exact p7 bj
 show(if h.peer.size≠0\/h.e≠none then _ else _)=_;rw[if_neg (by rw[g,he];simp),c1,j,if_neg af,c3,if_neg bj,c2];dsimp only;rw[hv];show(if p.size≠0\/(none:Option Nat)≠none then _ else _)=_;rw[if_pos (.inl b)]
theorem wv(s:aX)(l:aR)(n:Nat)(a:n<=32):(nQ s l n).length=n:=by
 unfold nQ eP;rw[aO,np];omega
theorem Dl(s:aX)(l:aR)(n:Nat):∀z∈nQ s l n,0<=z/\z<=255:=λz a=>ya _ _ z (dW a)
theorem oJ{c}(a:c.length=16):Cb (iZ c):=by
 refine⟨⟨#[99,110,110,110,110,110,110,110,110,110,110,98,117]⟩,(show dh 20=_ from by decide),?_⟩;have b:(strOfNums c).size=16:=by rw[bG,a]
 show I7 [99,110,110,110,110,110,110,110,110,110,110,98,117] (iZ c);refine⟨⟨_,_,rfl,b⟩,⟨_,_,rfl,an,an⟩,⟨_,_,rfl,an,an⟩,⟨_,_,rfl,an,an⟩,⟨_,_,rfl,an,an⟩,⟨_,_,rfl,an,an⟩,⟨_,_,rfl,an,an⟩,⟨_,_,rfl,an,an⟩,⟨_,_,rfl,an,an⟩,⟨_,_,rfl,an,an⟩,⟨_,_,rfl,an,an⟩,⟨_,_,rfl⟩,⟨_,_,rfl,an⟩,rfl,rfl,rfl,rfl⟩
theorem rM{c}(a:c.length=16):(db (iZ c)).size=140:=by
 rw[<-aj,pB (m:=iZ c) (f:=⟨#[99,110,110,110,110,110,110,110,110,110,110,98,117]⟩) (show dh 20=_ from by decide)];have b:(strOfNums c).size=16:=by rw[bG,a]
 show([(20:Int)]++(bI (strOfNums c)++(cG (ei [Kf])++(cG (ei [mM])++(cG (ei [Jg])++(cG (ei [Jg])++(cG (ei [oW])++(cG (ei [oW])++(cG (ei [oW])++(cG (ei [oW])++(cG (ei [])++(cG (ei [])++([if false=true then(1:Int)else 0]++(qJ 0 4 4++ [])))))))))))))).length=140;simp only[List.length_append,eQ,eW,aj,b,pO,Oa,List.length_cons,List.length_nil];decide
theorem C8(a b:aR):io (iZ a) (iZ b)=some (false,false):=by
 have h:∀i,o0 (iZ a) (iZ b) i=o0 (iZ []) (iZ []) i:=λ_=>rfl;have g:pd (iZ a) (iZ b)=false:=rfl;have c:pd (iZ b) (iZ a)=false:=rfl;unfold io;rw[h,h,h,h,h,h,h,h,g,c];decide
structure Kept(s s':aX):Prop where
 cl:s'.cl=s.cl
 pm:s'.pm=s.pm
 host:s'.host=s.host
 rZ:s'.rZ=s.rZ
 every:s'.every=s.every
 eB:s'.eB=s.eB
 line:s'.line=s.line
 rn:s'.rn=s.rn
 rs:s'.rs=s.rs
theorem Kept.refl(s:aX):Kept s s:=⟨rfl,rfl,rfl,rfl,rfl,rfl,rfl,rfl,rfl⟩
theorem Kept.trans{a b c}(h:Kept a b)(k:Kept b c):Kept a c:=⟨k.cl.trans h.cl,k.pm.trans h.pm,k.host.trans h.host,k.rZ.trans h.rZ,k.every.trans h.every,k.eB.trans h.eB,k.line.trans h.line,k.rn.trans h.rn,k.rs.trans h.rs⟩
theorem AZ(s:aX)(m:de):Kept s (l6 s m):=⟨rfl,rfl,rfl,rfl,rfl,rfl,rfl,rfl,rfl⟩
theorem Kd(s:aX):Kept s (km s):=⟨rfl,rfl,rfl,rfl,rfl,rfl,rfl,rfl,rfl⟩
theorem AY:∀(n:Nat) (s:aX),Kept s (lV n s)
 |0,s=>Kept.refl s
 |n+1,s=>by
  unfold lV
  split
  .split
   .exact Kept.refl s
   .rename_i p r a;refine Kept.trans ?_ (AY n _);dsimp only
    split
    .exact Kept.trans (⟨rfl,rfl,rfl,rfl,rfl,rfl,rfl,rfl,rfl⟩:Kept s {nR s p with waits:=r}) (Kd _)
    .exact⟨rfl,rfl,rfl,rfl,rfl,rfl,rfl,rfl,rfl⟩
  .exact Kept.refl s
theorem Ob(s:aX)(m:de):Kept s (jj s m).1:=by
 unfold jj
 split
 .exact Kept.refl s
 .dsimp only
  have b:∀x:CU,Kept s (if x.iD then{s with on:=x}else km {s with on:=x}):=λx=>by
   split<;>exact⟨rfl,rfl,rfl,rfl,rfl,rfl,rfl,rfl,rfl⟩
  generalize(if s.cl then{s.on with xM:=db m,eN:=true}else{s.on with xL:=db m,eN:=true})=x;have a:=b x;generalize(if x.iD then{s with on:=x}else km {s with on:=x}:aX)=s2 at*
  split
  .exact a
  .split
   .exact a
   .split
    .refine a.trans (Kept.trans ?_ (AZ _ _));exact⟨rfl,rfl,rfl,rfl,rfl,rfl,rfl,rfl,rfl⟩
    .exact a.trans ⟨rfl,rfl,rfl,rfl,rfl,rfl,rfl,rfl,rfl⟩
theorem A0(s:aX)(p:bB):Kept s (gZ s p).1:=by
 unfold gZ
 split
 .exact Kept.refl s
 .exact⟨rfl,rfl,rfl,rfl,rfl,rfl,rfl,rfl,rfl⟩
theorem G6(s:aX)(k:aR):Kept s (jH s k):=⟨rfl,rfl,rfl,rfl,rfl,rfl,rfl,rfl,rfl⟩
theorem G8(s:aX)(m:de):Kept s (fE s m).1:=by
 unfold fE
 split
 .exact Kept.refl s
 .have h:=A0 s (m.S.headD ⟨#[]⟩)
  split
  .rename_i s1 k a;rw[a]at h;exact h
  .rename_i s1 a;rw[a]at h;dsimp only;generalize c:lX s1.host=key;refine h.trans (Kept.trans (Kept.trans (b:={s1 with on:={s1.on with hb:=dB key}}) ?_ (AZ _ _)) (G6 _ _));exact⟨rfl,rfl,rfl,rfl,rfl,rfl,rfl,rfl,rfl⟩
theorem Ke(s:aX)(m:de):Kept s (fV s m).1:=by
 unfold fV
 split
 .exact Kept.refl s
 .split
  .exact Kept.refl s
  .split
   .exact Kept.refl s
   .have h:=A0 s (m.S.getD 1 ⟨#[]⟩)
    split
    .rename_i s1 k a;rw[a]at h;exact h
    .rename_i s1 a;rw[a]at h;dsimp only
     split
     .exact h.trans ⟨rfl,rfl,rfl,rfl,rfl,rfl,rfl,rfl,rfl⟩
     .split
      .exact h.trans ⟨rfl,rfl,rfl,rfl,rfl,rfl,rfl,rfl,rfl⟩
      .exact h.trans ⟨rfl,rfl,rfl,rfl,rfl,rfl,rfl,rfl,rfl⟩
theorem Oc(s:aX):Kept s (nG s).1:=by
 unfold nG
 split
 .exact Kept.refl s
 .dsimp only;refine Kept.trans ?_ (AY _ _);exact⟨rfl,rfl,rfl,rfl,rfl,rfl,rfl,rfl,rfl⟩
theorem uA(s:aX)(p:bB):Kept s (dF s p).1:=by
 unfold dF
 split
 .exact⟨rfl,rfl,rfl,rfl,rfl,rfl,rfl,rfl,rfl⟩
 .split
  .split
   .exact AZ _ _
   .exact Kept.refl s
  .split
   .exact Kept.refl s
   .split
    .exact Kept.refl s
    .split
     .exact Ob _ _
     .split
      .exact G8 _ _
      .split
       .exact Ke _ _
       .split
        .exact Oc _
        .split<;>exact Kept.refl s
end Go.Proofs.P
namespace Go.Spk
def gV(e:TypeId)(w a:World):Prop:= ∀(g:Nat) (cs:Array Value) (b:Nat×Nat),w.heap[g]?=some (Obj.cells cs e b)->a.heap[g]?=w.heap[g]?
theorem gV.cL{e}{w w'}(h:Below w.heap.size w w'):gV e w w':=λg b c a=>h.block g (aT.1 a).1
theorem gV.trans{e}{a b c}(h:gV e a b)(k:gV e b c):gV e a c:=λg d f i=>by
 have j:=h g d f i;rw[k g d f (j.trans i),j]
theorem gV.bZ{e t}{w w'}{g}{cs}(b:Whole w g t cs)(h:w.grownBy w' (some g))(d:t≠e):gV e w w':=λi c k a=>h.block i (aT.1 a).1 (λq=>by
 injection q with q;subst q;have f:w.heap[i]?=some (.cells cs t (0,0)):=b;rw[f]at a;injection a with a;injection a with _ j;exact d j)
theorem gV.pj{e t}{w w'}{B n}{v}{xs}(d:w.ownsRow B t 1 v n xs)(h:w.grownBy w' v.ownBlock)(f:t≠e):gV e w w':=λi c o a=>h.block i (aT.1 a).1 (λq=>by
 rcases d.2 with⟨b,_⟩|⟨g,j,k,b,_,l,_⟩
 .rw[b]at q;cases q
 .rw[b]at q;simp[Value.ownBlock]at q;subst q;rw[l]at a;injection a with a;injection a with _ m;exact f m)
theorem Whole.mz{e}{w w'}{g}{cs}(h:Whole w g e cs)(k:gV e w w'):Whole w' g e cs:=(k g cs (0,0) h).trans h
theorem nw{e}{w w'}{B n}{v}{xs}(h:w.ownsRow B e 1 v n xs)(k:gV e w w'):w'.ownsRow B e 1 v n xs:=by
 refine⟨h.1,?_⟩;rcases h.2 with d|⟨g,b,a,f,i,c,r⟩
 .exact .inl d
 .exact .inr ⟨g,b,a,f,i,(k g a (0,0) c).trans c,r⟩
theorem wV(w:ay)(B:Nat)(e:fg):w.ownsRow B e 1 (.slice none 0 0) 0 []:=⟨rfl,.inl ⟨rfl,rfl⟩⟩
def ry(T:TypeId)(B:Nat)(q:Option Nat)(w:World):List Value->List (List ByteArray)->Prop
 | [],[]=>True
 |v::r,l::s=>((l= []/\ ∃A c,v= .slice A 0 c)\/ ∃g,v= .slice (some ⟨g,0,none⟩) l.length l.length/\B<=g/\some g≠q/\Whole w g T (l.map Value.string).toArray)/\ry T B q w r s
 |_,_=>False
theorem ry.mz{T:TypeId}{B:Nat}{q:Option Nat}{w a:World}(k:gV T w a):∀{vs:List Value} {L:List (List ByteArray)},ry T B q w vs L->ry T B q a vs L
 | [],[],_=>trivial
 |v::r,l::s,h=>⟨h.1.imp id (λ⟨g,b,c,d,e⟩=>⟨g,b,c,d,e.mz k⟩),ry.mz k h.2⟩
 | [],_::_,h=>h.elim
 |_::_,[],h=>h.elim
theorem ry.push{T:TypeId}{B:Nat}{q:Option Nat}{w:World}{v:Value}{l:List ByteArray}(hv:(l= []/\ ∃A c,v= .slice A 0 c)\/ ∃g,v= .slice (some ⟨g,0,none⟩) l.length l.length/\B<=g/\some g≠q/\Whole w g T (l.map Value.string).toArray):∀{vs:List Value} {L:List (List ByteArray)},ry T B q w vs L->ry T B q w (vs++ [v]) (L++ [l])
 | [],[],_=>⟨hv,trivial⟩
 |_::_,_::_,h=>⟨h.1,ry.push hv h.2⟩
 | [],_::_,h=>h.elim
 |_::_,[],h=>h.elim
theorem ry.len{T:TypeId}{B:Nat}{q:Option Nat}{w:World}:∀{vs:List Value} {L:List (List ByteArray)},ry T B q w vs L->vs.length=L.length
 | [],[],_=>rfl
 |v::r,l::s,h=>by simp[ry.len h.2]
 | [],_::_,h=>h.elim
 |_::_,[],h=>h.elim
def iB(P:Nat->Prop)(w:World)(v:Value)(cs:List Value):Prop:=
 (cs= []/\ ∃A c,v= .slice A 0 c)\/(∃g o c,v= .slice (some ⟨g,o,none⟩) cs.length c/\cs.length<=c/\P g/\g<w.heap.size/\ ∀j x,cs[j]?=some x->w.cell? ⟨g,o+j,none⟩=some x)
theorem iB.below{P}{w}{v}{cs}(h:iB P w v cs):vV w.heap.size w v cs:=h.imp id (λ⟨g,o,c,a,b,_,d,e⟩=>⟨g,o,c,a,b,d,e⟩)
theorem iB.grow{P}{L}{w a}{v}{cs}(h:iB P w v cs)(k:ci L w a)(d:∀i,P i->i∉L):iB P a v cs:=h.imp id (λ⟨g,o,c,e,f,b,l,m⟩=>⟨g,o,c,e,f,b,aL l k.size,λj x n=>k.cell (m j x n) (d g b)⟩)
theorem iB.pj{B}{e}{w}{v}{n}{xs}(h:w.ownsRow B e 1 v n xs):iB (B<= ·) w v xs:=by
 obtain⟨i,k⟩:=h;have d:xs.length=n:=by simpa using i
 rcases k with⟨rfl,rfl⟩|⟨g,a,b,rfl,l,f,m,q,r,o⟩
 .exact .inl ⟨o5 d,none,0,rfl⟩
 .subst d;refine .inr ⟨g,0,a,rfl,m,l,Whole.inside (t:=e) (cs:=b) f,λj x c=> ?_⟩;rw[aW,Whole.at_ (t:=e) f];have p:=(aI.1 c).1;rw[<-o,js af]at c;simpa using c
theorem iB.mono{P Q}{w}{v}{cs}(h:iB P w v cs)(a:∀i,P i->Q i):iB Q w v cs:=h.imp id (λ⟨g,o,c,b,d,e,f⟩=>⟨g,o,c,b,d,a g e,f⟩)
def sQ(P:Nat->Prop)(w:World):List Value->List (List ByteArray)->Prop
 | [],[]=>True
 |v::r,l::s=>iB P w v (l.map Value.string)/\sQ P w r s
 |_,_=>False
theorem sQ.below{P:Nat->Prop}{w:World}:∀{vs:List Value} {L:List (List ByteArray)},sQ P w vs L->uL w.heap.size w vs L
 | [],[],_=>trivial
 |_::_,_::_,h=>⟨h.1.below,sQ.below h.2⟩
 | [],_::_,h=>h.elim
 |_::_,[],h=>h.elim
theorem sQ.grow{P:Nat->Prop}{M:List Nat}{w a:World}(k:ci M w a)(b:∀i,P i->i∉M):∀{vs:List Value} {L:List (List ByteArray)},sQ P w vs L->sQ P a vs L
 | [],[],_=>trivial
 |_::_,_::_,h=>⟨h.1.grow k b,sQ.grow k b h.2⟩
 | [],_::_,h=>h.elim
 |_::_,[],h=>h.elim
section
variable {P:Nat->Prop}{W W':World}
theorem iB.loc{v}{cs}(h:iB P W v cs)(b:∀k,P k->W'.heap[k]?=W.heap[k]?)(d:W.heap.size<=W'.heap.size):iB P W' v cs:=
 h.imp id λ⟨g,o,c,e,f,a,i,l⟩=>⟨g,o,c,e,f,a,aL i d,λj x m=>(df (b g a)).trans (l j x m)⟩
theorem sQ.loc(a:∀k,P k->W'.heap[k]?=W.heap[k]?)(b:W.heap.size<=W'.heap.size):∀{vs:List Value} {L:List (List ByteArray)},sQ P W vs L->sQ P W' vs L
 | [],[],_=>trivial
 |_::_,_::_,h=>⟨iB.loc h.1 a b,sQ.loc a b h.2⟩
 | [],_::_,h=>h.elim
 |_::_,[],h=>h.elim
end
end Go.Spk
namespace Go.Proofs.P
structure mV(P:Nat->Prop)(w:World)(vu vs vn vb:Value)(m:de):Prop where
 U:iB P w vu (m.U.map λn:Nat=>Value.int .u32 n)
 S:iB P w vs (m.S.map Value.string)
 N:∃ns,iB P w vn ns/\sQ P w ns m.N
 B:iB P w vb (m.B.map Value.bool)
theorem mV.at_{P}{w}{vu vs vn vb}{m}(h:mV P w vu vs vn vb m):kb w.heap.size w vu vs vn vb m:=
 ⟨h.U.below,h.S.below,by obtain⟨a,b,c⟩:=h.N;exact⟨a,b.below,c.below⟩,h.B.below⟩
theorem mV.grow{P}{M}{w b}{c vs d e}{m}(h:mV P w c vs d e m)(k:ci M w b)(a:∀i,P i->i∉M):mV P b c vs d e m:=
 ⟨h.U.grow k a,h.S.grow k a,by obtain⟨f,g,j⟩:=h.N;exact⟨f,g.grow k a,j.grow k a⟩,h.B.grow k a⟩
structure PIn(lo gi gm:Nat)(st:iV)(m:de)(W:World)(vu vs vn vb:Value)(ns:List Value):Prop where
 M:Whole W gm 106 (dP m.kind vu vs vn vb)
 I:jF W gi st
 U:W.ownsRow lo 147 1 vu m.U.length (m.U.map λn:Nat=>Value.int .u32 n)
 S:W.ownsRow lo 9 1 vs m.S.length (m.S.map Value.string)
 N:W.ownsRow lo 33 1 vn m.N.length ns
 L:ry 9 lo vs.ownBlock W ns m.N
 B:W.ownsRow lo 4 1 vb m.B.length (m.B.map Value.bool)
theorem PIn.iC{lo gi gm}{st}{m}{W W'}{vu vs vn vb}{ns}(h:PIn lo gi gm st m W vu vs vn vb ns)(a:Below W.heap.size W W'):PIn lo gi gm st m W' vu vs vn vb ns:=
 ⟨h.M.mz (gV.cL a),Whole.mz h.I (gV.cL a),nw h.U (gV.cL a),nw h.S (gV.cL a),nw h.N (gV.cL a),h.L.mz (gV.cL a),nw h.B (gV.cL a)⟩
def Pu(E:Nat->Addr)(B:Nat)(r:de ⊕ Nat)(e:Ending)(w:World):Prop:=match r with
 | .inl m=> ∃b c d f,e= .returned (.tuple #[.agg (dP m.kind b c d f),.nilIface])/\mV (B<= ·) w b c d f m
 | .inr k=> ∃a,e= .returned (.tuple #[.agg a,bM (E k)])
end Go.Proofs.P
namespace Go.Proofs.P.LitN
open Go.Proofs.P
def ml:ByteArray:=⟨#[99]⟩
def lT:ByteArray:=⟨#[115]⟩
def kJ:ByteArray:=⟨#[115]⟩
def kU:ByteArray:=⟨#[116]⟩
def host:List Int:= [9,9,0,0,0,0,0,0,0,0,0,0,0,0,0,0,0,0,0,0,0,0,0,0,0,0,0,0,0,0,0,0]
def BT:List Int:= [74,24,106,226,123,23,169,148,200,206,177,87,211,217,147,167]
def AB:List Int:= [171,43,69,8,244,116,69,99,50,56,186,209,203,25,98,163]
def vy:List Int:= [15,52,88,13,160,188,227,134,106,225,144,79,217,192,249,98,16,120,194,16,83,213,44,217,250,53,244,202,86,63,105,100]
def yO:List Int:= [12,158,211,123,75,5,12,123,171,119,240,19,8,234,226,143,14,203,225,28,201,74,219,43,99,121,162,162,85,139,59,190]
def pC:List Int:= [184,117,38,195,7,237,0,23,21,209,110,102,54,244,119,72,95,141,157,231,97,0,245,218,122,33,216,156,11,206,68,61]
def pS:List Int:= [75,161,140,254,146,192,19,14,119,81,60,203,93,23,73,41,126,58,241,172,73,13,214,197,142,162,30,127,43,38,114,57]
def shr:Nat:=11934753799523987705764864628973207870466661022154062444372264733596495726290
def sec:List Int:= [210,70,13,20,79,173,23,222,164,12,41,154,17,244,66,94,144,3,22,159,105,154,182,26,130,28,88,0,206,212,98,26]
def key:List Int:= [189,9,87,205,23,147,241,131,255,93,250,70,5,103,31,248,164,177,182,140,212,16,105,85,2,107,238,76,242,125,91,238]
def hash:List Int:= [193,114,79,181,128,142,48,85,46,232,190,107,172,81,70,2,111,175,182,94,84,171,39,164,141,108,236,37,20,17,130,232]
def sig:List Int:= [218,150,46,63,198,107,236,109,197,137,193,131,234,208,96,164,96,220,99,90,147,221,24,18,127,59,193,149,158,166,177,63,67,191,255,153,196,108,112,192,226,54,122,64,34,219,32,255,193,15,145,131,176,167,51,221,105,217,206,171,48,175,255,8]
theorem EH:eP (bI kJ) (oG++ [0]) 16=BT:=by decide+kernel
theorem EI:eP (bI kU) (oG++ [0]) 16=AB:=by decide+kernel
theorem EL:eP (bI kJ) (mC++ [0]) 32=vy:=by decide+kernel
theorem EM:eP (bI kU) (mC++ [0]) 32=yO:=by decide+kernel
theorem MM:mJ vy=pC:=by decide+kernel
theorem MN:mJ yO=pS:=by decide+kernel
theorem zC:di vy pS=shr:=by decide+kernel
theorem IJ:di yO pC=shr:=by decide+kernel
theorem FC:shr≠0:=an
theorem Fz:eE shr=sec:=by decide+kernel
theorem tK:lX host=key:=by decide+kernel
def told:List Int:=cG (fH++ml)++cG (fH++lT)++cG (db (iZ BT))++cG (db (iZ AB))++cG (dB key)++gN pC++gN pS++gN (vY sec)
theorem zO:mj false told=hash:=by decide+kernel
theorem FD:qX host hash=sig:=by decide+kernel
theorem fits:je key hash sig=true:=by decide+kernel
end Go.Proofs.P.LitN
