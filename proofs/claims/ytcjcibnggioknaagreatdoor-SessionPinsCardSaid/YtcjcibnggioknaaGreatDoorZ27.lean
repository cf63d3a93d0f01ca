/- Lemmas on which SessionPins rests. -/
import Derived.LaidHandle
import Derived.LaidSub
import Derived.Test.YtcjcibnggioknaaGreatDoorZ21
set_option maxRecDepth 100000
set_option maxHeartbeats 40000000
set_option linter.unusedVariables false
open Go.RowKit Go.Spk
open Go.Proofs.Tryz
namespace Go.Proofs.YtcjcibnggioknaaGreatDoor
open Go.Proofs.P
open Go.ChangeShapes Go.WideShapes Go.ChangeAt
theorem gET:prog.globalNamed "errors.errorType"=some 20:=al
theorem aaC:(List.range prog.types.size).all (λa=> !prog.rowNamed a [101,114,114,111,114]||a==27)=true:=al
theorem aaB:(prog.cutTypes.find? (·.1== "internal/reflectlite.rtype")).map (·.2)=some 175:=al
theorem YC:(Rows.laid_errors_errorType (H:=Unit)).handleName?=some [101,114,114,111,114]:=al
theorem UF:(Rows.laid_errors_errorType (H:=Unit)).funcsIn?=none:=al
theorem aaD{W}(h:handlesMet prog [("errors.errorType",Rows.laid_errors_errorType)] W):W.cell? ⟨20,0,none⟩=some (IE 27):=by
 have b:=h ("errors.errorType",Rows.laid_errors_errorType) (ar.2 rfl);rw[UF]at b;obtain⟨name,u,c,d,e,a,g,i⟩:=b;rw[YC]at d;obtain rfl:=iU d;rw[aaB]at e;obtain rfl:=iU e;have f:=fX.1 aaC c (List.mem_range.2 a);rw[g]at f;obtain rfl:c=27:=by simpa using f
 rw[World.var?_cell gET i 0,wh]
 rfl
theorem Bp{name}{g}{k}{zs}{W}(a:prog.globalNamed name=some g)(b:Lib.TabIs prog W name k zs):W.rangeAt g 0 (zs.map (Value.int k)):=by
 intro j v c;have:=World.var?_cell a b j;rw[aW,this];simpa[Function.comp_def]using c
theorem chunks{α:Type}(m:Nat)(f:Nat->List α):∀(n:Nat) (cs:List α),cs.length=n*m->(∀i,i<n->(cs.drop (i*m)).take m=f i)->cs=(List.range n).flatMap f
 |0,cs,a,_=>by rw[Nat.zero_mul]at a;rw[nY.1 a];rfl
 |n+1,cs,a,h=>by
  have g:(n+1)*m=n*m+m:=Nat.succ_mul n m
  have c:=chunks m f n (cs.take (n*m)) (by rw[aO];omega) (λi d=>by
   have e:i*m+m<=n*m:=by rw[<-Nat.succ_mul];exact Nat.mul_le_mul_right m d
   rw[List.drop_take,List.take_take,Nat.min_eq_left af];exact h i af)
  have b:=h n af;rw[bL (by rw[bK];omega)]at b;rw[List.range_succ,List.flatMap_append,<-c,List.flatMap_singleton,<-b,cR]
def OL(r:Int×ByteArray×ByteArray):DataW Unit:= .agg [.lit (.int .i64 r.1),.lit (.string r.2.1.data.toList),.lit (.string r.2.2.data.toList)]
theorem Gj:prog.cellsOf 205=3:=al
theorem NG:prog.cellsOf 238=87:=al
theorem Yk:prog.cellsOf 3=1:=al
theorem Qb:prog.cellsOf 9=1:=al
theorem M9{a b:bB}(h:a.data.toList=b.data.toList):a=b:=by
 obtain⟨⟨a⟩⟩:=a;obtain⟨⟨b⟩⟩:=b;obtain rfl:a=b:=h
 rfl
theorem OM{W}{fuel}{cs}{r}{p}{sp}(h:DataW.trod (λ_=>()) prog W 0 sp false fuel 205 cs=some (OL r,p)):cs=(zB r).toList:=by
 obtain⟨xs,n,rfl,w,v,x,a⟩:=DataW.trod_struct underlying205 h;rw[Gj]at v
 have b:xs.map (·.1)= [.lit (.int .i64 r.1),.lit (.string r.2.1.data.toList),.lit (.string r.2.2.data.toList)]:=by
  have:=aA Prod.fst w;simpa[OL]using this.symm
 obtain⟨e,f,g,rfl⟩:∃e f g,xs= [e,f,g]:=by
  match xs,b with
  | [e,f,g],_=>exact⟨e,f,g,rfl⟩
 simp only[List.map_cons,List.map_nil,List.cons.injEq,and_true]at b;obtain⟨i,j,k⟩:=b;have l:=a 0 _ rfl;have m:=a 1 _ rfl;have o:=a 2 _ rfl;change DataW.trod _ _ _ _ _ _ _ 3 ((cs.drop 0).take (prog.cellsOf 3))=some e at l;change DataW.trod _ _ _ _ _ _ _ 9 ((cs.drop 1).take (prog.cellsOf 9))=some f at m;change DataW.trod _ _ _ _ _ _ _ 9 ((cs.drop 2).take (prog.cellsOf 9))=some g at o;rw[Yk]at l;rw[Qb]at m o;obtain⟨z,q,s,_⟩:=DataW.trod_int underlying3 l;obtain⟨s1,c,t,_⟩:=DataW.trod_string underlying9 m;obtain⟨s2,d,u,_⟩:=DataW.trod_string underlying9 o;rw[s]at i;rw[t]at j;rw[u]at k;simp only[DataW.lit.injEq,Lit.int.injEq,Lit.string.injEq,true_and]at i j k;subst i;obtain rfl:=M9 j;obtain rfl:=M9 k
 obtain⟨c0,c1,c2,rfl⟩:∃c0 c1 c2,cs= [c0,c1,c2]:=by
  match cs,v with
  | [c0,c1,c2],_=>exact⟨c0,c1,c2,rfl⟩
 injection q with q;injection c with c;injection d with d;rw[q,c,d]
 rfl
theorem XC:prog.globalNamed "speakeasy/message.rows"=some 23:=al
theorem YK:(prog.globals[23]?).map (·.type)=some 238:=al
theorem We{rest}{W}(t:W.ShapedOpen prog)(h:laidMet prog (("speakeasy/message.rows",.agg (nS.map OL))::rest) W):m0 W:=by
 obtain⟨z,⟨A,B,e,c,p,q,f,g,a,u,_,_⟩,_⟩:=h;obtain rfl:=iU (XC.symm.trans f);obtain rfl:=iU (YK.symm.trans g);have j:DataW.trod (λ_=>()) prog W 0 (λ_=>true) false c 238 e.toList=some (.agg (nS.map OL),p):=u;obtain⟨xs,C,_,m,n,v,o⟩:=DataW.trod_array underlying238 j;rw[NG]at n;rw[Gj]at o;simp only[Prod.mk.injEq,DataW.agg.injEq]at m
 have w:=chunks 3 (λi=>(zB (nS.getD i (0,⟨#[]⟩,⟨#[]⟩))).toList) 29 e.toList n (λi d=>by
  obtain⟨y,r⟩:∃y,xs[i]?=some y:=⟨xs[i]'af,aQ af⟩;have b:=o i d;rw[r]at b;have s:=aA (·[i]?) m.1;have k:nS[i]?=some (nS.getD i (0,⟨#[]⟩,⟨#[]⟩)):=by simp[List.getD,show i<nS.length from d]
  simp only[List.getElem?_map,r,k,Option.map_some,Option.some.injEq]at s;have x:y=(OL (nS.getD i (0,⟨#[]⟩,⟨#[]⟩)),y.2):=by rw[s]
  rw[x]at b;exact OM b)
 have l:e=ID:=by
  rw[<-Array.toArray_toList (xs:=e),w]
  rfl
 obtain⟨D,b,_,_⟩:=t.1 23 (List.replicate 29 [Value.int .i64 0,.string ⟨#[]⟩,.string ⟨#[]⟩]).flatten.toArray 238 (qy al) al;unfold World.var? at a;rw[XC]at a;simp only[Option.bind_some,b,Option.some.injEq]at a;rw[a,l]at b;exact b
def Sf:List (String×DataW Unit):= [("speakeasy/chacha.begin",Rows.laid_speakeasy_chacha_begin),("speakeasy/chacha.order",Rows.laid_speakeasy_chacha_order)]
theorem Yw{W}{l}(b:W.ShapedOpen prog)(hl:laidMet prog l W)
 (e1:(l.filter λx=> ["speakeasy/chacha.begin","speakeasy/chacha.order"].contains x.1)=Sf)
 (i:(l.filter λx=>(GD.map (·.1)).contains x.1)=GD.map Yz)
 (e3:(l.filter λx=> ["speakeasy/scalar.order"].contains x.1)= [("speakeasy/scalar.order",Lib.tabData .u32 (pg 8 lS))])
 (j:(l.filter λx=> ["speakeasy/sha2.words"].contains x.1)= [("speakeasy/sha2.words",Lib.tabData .u64 (qD lO))])
 (k:(l.filter λx=> ["speakeasy/sha2.first"].contains x.1)= [("speakeasy/sha2.first",Lib.tabData .u64 (qD iY))])
 (m:(l.filter λx=> ["speakeasy/message.rows"].contains x.1)= [("speakeasy/message.rows",.agg (nS.map OL))]):∃E,Env W E:=by
 have a:=hl.filter λx=> ["speakeasy/chacha.begin","speakeasy/chacha.order"].contains x.1;have c:=hl.filter λx=>(GD.map (·.1)).contains x.1;have d:=hl.filter λx=> ["speakeasy/scalar.order"].contains x.1;have e:=hl.filter λx=> ["speakeasy/sha2.words"].contains x.1;have f:=hl.filter λx=> ["speakeasy/sha2.first"].contains x.1;have h:=hl.filter λx=> ["speakeasy/message.rows"].contains x.1;rw[e1]at a;rw[i]at c;rw[e3]at d;rw[j]at e;rw[k]at f;rw[m]at h;unfold Sf at a;obtain⟨E,n⟩:=UE c
 exact⟨E,n,We b h,PN a,RQ a,
  Bp al (Lib.tabIs_of_head (g:=22) al al underlying230 underlying47 al al e),
  Bp al (Lib.tabIs_of_head (g:=21) al al underlying192 underlying47 al al f),
  Bp al (Lib.tabIs_of_head (g:=27) al al underlying340 underlying147 al al d),
  laysM143.s1_3 W b⟩
theorem Wu{W:ay}(a:W.ShapedOpen prog):30<=W.heap.size:=by
 obtain⟨o,c,b,_,_⟩:=a.2 30 (qy al) (qy al);exact fI (aT.1 b).1
theorem YW{W}{l}(b:W.ShapedOpen prog)(h:laidMetH prog l W)(c:l=Rows.sessionPinsRow.laid):
 ∃E,Env W E/\W.cell? ⟨20,0,none⟩=some (IE 27):=by
 subst c;have a:=laidMetH_iff.1 h;have d:(Rows.sessionPinsRow.laid.filter λx=>x.2.handleName?.isSome)= [("errors.errorType",Rows.laid_errors_errorType)]:=al;rw[d]at a;obtain⟨E,e⟩:=Yw b a.1 al al al al al al;exact⟨E,e,aaD a.2⟩
theorem Sd{W}(a:W.ShapedOpen prog)(h:laidMetH prog Rows.sessionPinsRow.laid W):∃E,Env W E/\W.cell? ⟨20,0,none⟩=some (IE 27):=YW a h rfl
noncomputable def Bv(a:Os):World:={GE a with heap:=(((((((GE a).heap.modify 27 (dO ((pg 8 lS).map (Value.int .u32)).toArray)).modify 22 (dO ((qD lO).map (Value.int .u64)).toArray)).modify 21 (dO ((qD iY).map (Value.int .u64)).toArray)).modify 23 (dO ID)).modify 29 (dO (ai .u8 [128,191,160,191,128,159,144,191,128,143,0,0,0,0,0,0,0,0,0,0,0,0,0,0,0,0,0,0,0,0,0,0]))).modify 28 (dO (ai .u8 (Pinned.utf8FirstZ.map λ(n:Nat)=>(n:Int))))).modify 20 (dO #[IE 27])}
theorem mr{a b}(h:a=true)(k:b=true):(a&&b)=true:=by rw[h,k];rfl
theorem Iq:joinedFacts Tryz.pinned.checked.prog 3 f3 (OpenSpec.ofChange Rows.sessionPinsSpec).bare Rows.sessionPinsRow=true:=by
 unfold joinedFacts;refine mr (mr (mr (mr (mr (mr (mr (mr (mr (mr (mr (mr (mr (mr (mr (mr (mr (mr (mr (mr (mr (mr (mr (mr (mr (mr (mr (mr (mr (mr (mr ?_ ?_) ?_) ?_) ?_) ?_) ?_) ?_) ?_) ?_) ?_) ?_) ?_) ?_) ?_) ?_) ?_) ?_) ?_) ?_) ?_) ?_) ?_) ?_) ?_) ?_) ?_) ?_) ?_) ?_) ?_) ?_
 all_goals as_aux_lemma=>kernel_rfl
end Go.Proofs.YtcjcibnggioknaaGreatDoor
namespace Go.Proofs.P
theorem yx(s:aX)(y:bB)(b:y.size=32)(a:di s.on.draw (bI y)≠0):gZ s y=({s with on:=if s.cl then{s.on with p1:=bI y,sec:=eE (di s.on.draw (bI y))}else{s.on with p0:=bI y,sec:=eE (di s.on.draw (bI y))}},none):=by
 unfold gZ;rw[if_neg (by rw[b];decide)];dsimp only;rw[if_neg a,if_neg a]
theorem NI(s:aX)(m:de)(x y z a b:bB)(hS:m.S= [x,y,z])(f:s.on.asked=true)(g:s.on.done=false)(c:s.cl=true)(i:fy x 32 9= .inl a)(j:fy z 64 10= .inl b)(l:y.size=32)(d:di s.on.draw (bI y)≠0)(n:bI a=s.rZ)(hv:je (bI a) (fQ {s.on with p1:=bI y,sec:=eE (di s.on.draw (bI y)),hb:=x}) (bI b)=true):
 fV s m=(jH {s with on:={s.on with p1:=bI y,sec:=eE (di s.on.draw (bI y)),hb:=x}} (bI a),none):=by
 have e:=yx s y l d;rw[if_pos c]at e;unfold fV;rw[if_neg (by rw[f,g];simp),hS];show(match fy x 32 9 with| .inr k=>(s,some k)| .inl a=>match fy z 64 10 with| .inr k=>(s,some k)| .inl b=>match gZ s y with|(s1,some k)=>(s1,some k)|(s1,none)=>_)=_;rw[i,j,e];dsimp only;rw[if_neg (λh=>h n)];have o:fQ {{s.on with p1:=bI y,sec:=eE (di s.on.draw (bI y))}with hb:= [x,y,z].getD 0 ⟨#[]⟩}=fQ {s.on with p1:=bI y,sec:=eE (di s.on.draw (bI y)),hb:=x}:=rfl;rw[o,if_neg (by rw[hv];decide)]
 rfl
theorem Jt(s:aX)(m:de)(x:bB)(hS:m.S= [x])(a:s.cl=false)(b:s.on.eN=true)(e:s.on.done=false)(f:x.size=32)(c:di s.on.draw (bI x)≠0):
 fE s m=(jH (l6 {s with on:={s.on with p0:=bI x,sec:=eE (di s.on.draw (bI x)),hb:=dB (lX s.host)}} ⟨31,[],[dB (lX s.host),strOfNums s.on.p1,dB (qX s.host (fQ {s.on with p0:=bI x,sec:=eE (di s.on.draw (bI x)),hb:=dB (lX s.host)}))],[],[]⟩) (lX s.host),none):=by
 have d:=yx s x f c;rw[aq (by rw[a];decide)]at d;unfold fE;rw[aq (by rw[a,b,e];simp),hS];show(match gZ s x with|(s1,some k)=>(s1,some k)|(s1,none)=>_)=_;rw[d]
theorem Du:∀(W:eL) (s:aX),s.gone=false->0<s.c7->s.on.iD=false->s.every=0->s.wb=true->s.waits=W->lV W.length s={s with waits:= [],out:=s.out++strOfNums (ka s.wk s.wn W),wn:=s.wn+W.length,since:=s.since+W.length}
 | [],s,_,_,_,_,_,b=>by
  show s=_;rw[show strOfNums (ka s.wk s.wn [])=⟨#[]⟩from rfl,dT];obtain⟨⟩:=s;dsimp only at b;subst b
  rfl
 |p::r,s,c,d,e,f,a,b=>by
  show(if s.gone=false/\0<s.c7/\s.on.iD=false then _ else _)=_;rw[if_pos ⟨c,d,e⟩,b];dsimp only;rw[if_neg (by intro h;have g:0<s.every:=h.1;rw[f]at g;omega)];rw[Du r {nR s p with waits:=r} c d e f a rfl]
  have i:strOfNums (ka s.wk s.wn (p::r))=strOfNums (aV s.wb s.wk s.wn (bI p))++strOfNums (ka s.wk (s.wn+1) r):=by
   rw[a];show strOfNums (aV true s.wk s.wn (bI p)++ka s.wk (s.wn+1) r)=_;rw[Ad]
  rw[i,<-lA];show({s with out:=_,wn:=s.wn+1+r.length,since:=s.since+1+r.length,waits:= []}:aX)={s with out:=_,wn:=s.wn+(r.length+1),since:=s.since+(r.length+1),waits:= []};rw[show s.wn+1+r.length=s.wn+(r.length+1) by omega,show s.since+1+r.length=s.since+(r.length+1) by omega]
  rfl
theorem IX(s:aX)(b:s.on.yC=true)(c:s.c7=0)(d:s.gone=false)(he:s.every=0)(a:s.wb=true):
 nG s=({s with rb:=true,rk:=if s.cl then s.on.k1 else s.on.k0,id:=s.on.hash,key:=s.on.key,c7:=1,on:=ti,since:=s.waits.length,waits:= [],out:=s.out++strOfNums (ka s.wk s.wn s.waits),wn:=s.wn+s.waits.length},none):=by
 unfold nG;rw[if_neg (by rw[b];decide)];dsimp only;rw[Du s.waits ({s with rb:=true,rk:=if s.cl then s.on.k1 else s.on.k0,id:=if s.c7=0 then s.on.hash else s.id,key:=s.on.key,c7:=s.c7+1,on:=ti,since:=0}:aX) d (by show 0<s.c7+1;omega) rfl he a rfl];rw[c,if_pos rfl];show(({s with rb:=true,rk:=_,id:=_,key:=_,c7:=0+1,on:=ti,since:=0+s.waits.length,waits:= [],out:=_,wn:=_}:aX),none)=_;rw[show 0+s.waits.length=s.waits.length by omega]
section
variable {f:Fix}
theorem bw.sA(h:bw f):f.wL.size≠0:=by
 show(fH++f.ml).size≠0;rw[aN];show 8+_≠0;omega
theorem bw.A9(h:bw f):f.wM.size≠0:=by
 show(fH++f.lT).size≠0;rw[aN];show 8+_≠0;omega
theorem aaE(h:bw f)(W:eL):Ev (f.c1 f.key W) (bI (db f.zx)) false (strOfNums (aV false av 2 (bI (db m21)))) (f.c2 f.key W):=by
 have g:=h.z31;refine⟨c8 _,by rw[aj];omega,by rw[aj];omega,⟨rfl,h.A9,rfl⟩,λx o=> ?_⟩;rw[fq];refine(nF (m:=f.zx) rfl (dZ h.WT)).trans ?_;rw[show f.zx.kind=31 from rfl,if_neg an,if_neg an,if_neg an,if_neg an,if_pos rfl];have a:bI (strOfNums f.pS)=f.pS:=cJ h.pSm;have b:bI (strOfNums f.key)=f.key:=cJ h.Kh;have c:bI (strOfNums f.sig)=f.sig:=cJ h.OR;have i:(f.c1 f.key W).on.draw=f.vy:=rfl
 have d:=NI {f.c1 f.key W with rn:=(f.c1 f.key W).rn+1,rs:=x,out:=o} f.zx (dB f.key) (strOfNums f.pS) (dB f.sig) (strOfNums f.key) (strOfNums f.sig) rfl rfl rfl rfl (ko 32 9 h.Cs h.Kh an) (ko 64 10 h.IK h.OR an) (by rw[bG,h.Z3])
  (by show di f.vy (bI (strOfNums f.pS))≠0;rw[a,h.zC];exact h.ne) (by rw[b];rfl)
  (
   by
   show je (bI (strOfNums f.key)) (fQ {f.Az with p1:=bI (strOfNums f.pS),sec:=eE (di f.vy (bI (strOfNums f.pS))),hb:=dB f.key}) (bI (strOfNums f.sig))=true;rw[a,b,c,h.zC,h.sec,h.ex2];exact h.fits)
 rw[d];have e:({{f.c1 f.key W with rn:=(f.c1 f.key W).rn+1,rs:=x,out:=o}with on:={f.Az with p1:=bI (strOfNums f.pS),sec:=eE (di f.vy (bI (strOfNums f.pS))),hb:=dB f.key}}:aX)={f.c1 f.key W with rn:=(f.c1 f.key W).rn+1,rs:=x,out:=o,on:={f.Az with p1:=f.pS,sec:=f.sec,hb:=dB f.key}}:=by rw[a,h.zC,h.sec]
 show(jH {{f.c1 f.key W with rn:=(f.c1 f.key W).rn+1,rs:=x,out:=o}with on:={f.Az with p1:=bI (strOfNums f.pS),sec:=eE (di f.vy (bI (strOfNums f.pS))),hb:=dB f.key}} (bI (strOfNums f.key)),false,none)=_;rw[e,b];unfold jH;dsimp only;rw[h.ex2]
 rfl
theorem aaF(h:bw f)(W:eL):Ev (f.c2 f.key W) (bI (db m21)) false (strOfNums (ka f.k0 3 W)) (f.c3 f.key W.length):=by
 have a:=z21;refine⟨c8 _,by rw[aj];omega,by rw[aj];omega,⟨rfl,h.A9,rfl⟩,λx o=> ?_⟩;rw[fq];refine(nF (m:=m21) rfl (dZ Tq)).trans ?_;rw[show m21.kind=21 from rfl,aq an,aq an,aq an,aq an,aq an,aJ rfl];rw[IX {f.c2 f.key W with rn:=(f.c2 f.key W).rn+1,rs:=x,out:=o} rfl rfl rfl rfl rfl]
 rfl
theorem Xz(h:bw f):Ev f.sh (bI f.vC) false ⟨#[]⟩ f.s1:=by
 have a:=rM h.NK;refine⟨c8 _,by rw[aj];unfold Fix.vC;omega,by rw[aj];unfold Fix.vC;omega,⟨rfl,h.sA,rfl⟩,λx o=> ?_⟩;rw[fq,dT];refine(nF (m:=iZ f.BT) rfl (dZ (oJ h.NK))).trans ?_;rw[show(iZ f.BT).kind=20 from rfl,aq an,aq an,aJ rfl];rw[Ms {f.sh with rn:=f.sh.rn+1,rs:=x,out:=o} (iZ f.BT) (iZ f.AB) false false rfl rfl rfl (dZ (oJ h.NL)) (C8 _ _)];rw[zM (sd:=f.kU) rfl rfl,h.yO,h.pS]
 rfl
theorem XA(h:bw f):Ev f.s1 (bI (db f.tn)) false (strOfNums (aV false av 1 (bI (db f.zx)))++strOfNums (aV false av 2 (bI (db m21)))) f.s2:=by
 have d:=h.z30;refine⟨c8 _,by rw[aj];omega,by rw[aj];omega,⟨rfl,h.sA,rfl⟩,λx o=> ?_⟩;rw[fq,<-lA];refine(nF (m:=f.tn) rfl (dZ h.abi)).trans ?_;rw[show f.tn.kind=30 from rfl,if_neg an,if_neg an,if_neg an,if_pos rfl];have a:bI (strOfNums f.pC)=f.pC:=cJ h.pCm;have b:=Jt {f.s1 with rn:=f.s1.rn+1,rs:=x,out:=o} f.tn (strOfNums f.pC) rfl rfl rfl rfl (by rw[bG,h.pCl]) (by show di f.yO (bI (strOfNums f.pC))≠0;rw[a,h.IJ];exact h.ne);rw[b];show(jH (l6 {{f.s1 with rn:=f.s1.rn+1,rs:=x,out:=o}with on:={f.Ll with p0:=bI (strOfNums f.pC),sec:=eE (di f.yO (bI (strOfNums f.pC))),hb:=dB (lX f.host)}} ⟨31,[],[dB (lX f.host),strOfNums f.pS,dB (qX f.host (fQ {f.Ll with p0:=bI (strOfNums f.pC),sec:=eE (di f.yO (bI (strOfNums f.pC))),hb:=dB (lX f.host)}))],[],[]⟩) (lX f.host),false,none)=_;rw[a,h.IJ,h.sec,h.key,h.aaH,h.sig];unfold jH;have c:fQ (l6 {{f.s1 with rn:=f.s1.rn+1,rs:=x,out:=o}with on:={f.Ll with p0:=f.pC,sec:=f.sec,hb:=dB f.key}} ⟨31,[],[dB f.key,strOfNums f.pS,dB f.sig],[],[]⟩).on=f.hash:=h.aaH;dsimp only;rw[c]
 rfl
theorem aaG(h:bw f):Ev f.s2 (bI (db m21)) false ⟨#[]⟩ (f.s3 0):=by
 have a:=z21;refine⟨c8 _,by rw[aj];omega,by rw[aj];omega,⟨rfl,h.sA,rfl⟩,λx o=> ?_⟩;rw[fq];refine(nF (m:=m21) rfl (dZ Tq)).trans ?_;rw[show m21.kind=21 from rfl,aq an,aq an,aq an,aq an,aq an,aJ rfl];rw[IX {f.s2 with rn:=f.s2.rn+1,rs:=x,out:=o} rfl rfl rfl rfl rfl]
 rfl
structure FQ(p:ByteArray):Prop where
 size:p.size<=32768
 pos:1<=p.size
 kind:∃m,fk p= .inl m/\ ¬(m.kind<=4\/(20<=m.kind/\m.kind<=31))
theorem Ip{m:de}(a:¬(m.kind<=4\/(20<=m.kind/\m.kind<=31))):m.kind≠1/\ ¬(m.kind=2\/m.kind=3\/m.kind=4)/\m.kind≠20/\m.kind≠30/\m.kind≠31/\m.kind≠21:=af
theorem YD(h:bw f)(n:Nat)(p:bB)(b:FQ p):Ev (f.s3 n) (bI p) true ⟨#[]⟩ (f.s3 (n+1)):=by
 obtain⟨m,c,d⟩:=b.kind;have a:=Ip d;refine⟨c8 _,by rw[aj];exact b.pos,by rw[aj];exact b.size,⟨rfl,h.sA,rfl⟩,λx o=> ?_⟩;rw[fq,dT];refine(nF (m:=m) rfl c).trans ?_;rw[aq a.1,aq a.2.1,aq a.2.2.1,aq a.2.2.2.1,aq a.2.2.2.2.1,aq a.2.2.2.2.2,aq (by intro h;rcases h with h|h<;>cases h)]
 rfl
end
end Go.Proofs.P
