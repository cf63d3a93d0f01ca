/- Lemmas on which SessionPins rests. -/
import Derived.Lib.ReflectliteSlice
import Derived.Test.YtcjcibnggioknaaGreatDoorZ07
set_option maxRecDepth 100000
set_option maxHeartbeats 40000000
set_option linter.unusedVariables false
open Go.RowKit Go.Spk
open Go.Proofs.Tryz
namespace Go.Proofs.P
attribute [local go_sem ↓] Go.wp_at_zero Go.wp_at_succ
section
variable (g n:Nat)(b:Bool)(ks:List Int)(s:ByteArray)(E:Nat->Addr)(hk:ks.length=32)(bk:jr ks)(hn:n<=1000000000)(hs:s.size<=1000000)(w:World)(hE:Er4 w E)(h:Whole w g 69 (dU n b ks++ #[.string s,.nilIface]))
 (t0:w.rangeAt 25 0 (fG.map (Value.int .u32))) (t1:w.rangeAt 26 0 j9)
include hk bk hn hs hE h t0 t1
end
theorem Jx{w a c}{g}(h:Below w.heap.size w a)(k:a.grownBy c (some g))(d:w.heap.size<=g):Below w.heap.size w c:=
 h.grown k h.size (λi b=>by injection b with b;omega)
end Go.Proofs.P
namespace Go.Proofs.P
open Go.Extern.Stop Go.Stop Go.Extern
def xK(t:TypeId):Value:= .pointer (some ⟨30,t,none⟩)
def IE(t:TypeId):Value:= .iface 175 (.agg #[xK t])
def rU:Array Value->Sem Value:=λargs=>ReflectliteValue.unpack (args.getD 0 (.tuple #[]))
def XQ:Array Value->Sem Value:=ReflectliteValue.methodAny (ReflectliteValue.valueError "reflectlite.Value.Type" 0) λt _ _ _=>ReflectliteType.toType t
def Rc:Array Value->Sem Value:=ReflectliteType.abiMethod λt=>do pure (.int .u8 (<-Go.Extern.Rtype.kind t))
def Kc:Array Value->Sem Value:=ReflectliteValue.method (ReflectliteValue.valueError "reflectlite.Value.IsNil" 0) ReflectliteValue.isNil
def Qt:Array Value->Sem Value:=ReflectliteType.method ReflectliteType.elem
def XD:Array Value->Sem Value:=ReflectliteType.relation "Implements" ReflectliteType.implements_
def aam:Array Value->Sem Value:=ReflectliteType.relation "AssignableTo" ReflectliteType.assignableTo
def JU:Array Value->Sem Value:=ReflectliteValue.method (ReflectliteValue.valueError "reflectlite.Value.Elem" 0) ReflectliteValue.elem
theorem PD(w:ay):(Go.Extern.Rtype.kind 84).run prog w= .ok 22 w:=al
theorem LY(w:ay):(Go.Extern.Rtype.kind 82).run prog w= .ok 22 w:=al
theorem wh(t:fg):typeHandle prog t=xK t:=by
 unfold typeHandle xK;rw[show prog.globals.size=30 by kernel_rfl]
theorem F6(g:Option Addr)(w:ay):(rU #[.iface 84 (.pointer g)]).run prog w= .ok (.agg #[xK 84,.pointer (some ⟨w.heap.size,0,none⟩),.int .u64 150]) (w.alloc (.cells #[.pointer g] 84)):=by
 simp[rU,ReflectliteValue.unpack,ReflectliteValue.mk,newVar,newRow,Go.Extern.Rtype.handle,PD,Result.andThen,Value.cells,ReflectliteValue.flagIndir,wh]
theorem Ju(g:Option Addr)(w:ay):(rU #[.iface 82 (.pointer g)]).run prog w= .ok (.agg #[xK 82,.pointer (some ⟨w.heap.size,0,none⟩),.int .u64 150]) (w.alloc (.cells #[.pointer g] 82)):=by
 simp[rU,ReflectliteValue.unpack,ReflectliteValue.mk,newVar,newRow,Go.Extern.Rtype.handle,LY,Result.andThen,Value.cells,ReflectliteValue.flagIndir,wh]
theorem X9(a:Addr)(w:ay):(XQ #[.agg #[xK 84,.pointer (some a),.int .u64 150]]).run prog w= .ok (IE 84) w:=al
theorem X8(w:ay):(Rc #[xK 84]).run prog w= .ok (.int .u8 22) w:=al
theorem TY(w:ay):(Rc #[xK 82]).run prog w= .ok (.int .u8 22) w:=al
theorem TU(w:ay):(Qt #[.agg #[xK 84]]).run prog w= .ok (IE 82) w:=al
theorem X7(w:ay):(XD #[.agg #[xK 82],IE 27]).run prog w= .ok (.bool true) w:=al
theorem aak(w:ay):(aam #[.agg #[xK 82],IE 82]).run prog w= .ok (.bool true) w:=al
theorem PG(v:cH)(w:ay):(Extern.ReflectliteType.typeOf #[.iface 82 v]).run prog w= .ok (IE 82) w:=al
theorem Eu(t:fg)(w:ay):(Go.method 485 175 (.agg #[xK t]) "Kind").run prog w= .ok (262,xK t) w:=al
theorem Es(v:cH)(w:ay):(Go.method 485 175 v "Elem").run prog w= .ok (274,v) w:=al
theorem Et(v:cH)(w:ay):(Go.method 485 175 v "Implements").run prog w= .ok (275,v) w:=al
theorem FY(v:cH)(w:ay):(Go.method 485 175 v "AssignableTo").run prog w= .ok (272,v) w:=al
theorem Da(a:Addr)(w:ay):(ReflectliteValue.parts (.agg #[xK 84,.pointer (some a),.int .u64 150])).run prog w= .ok (some (84,a,150)) w:=al
theorem PF(a:Addr)(w:ay):(ReflectliteValue.parts (.agg #[xK 82,.pointer (some a),.int .u64 150])).run prog w= .ok (some (82,a,150)) w:=al
theorem PE(a:Addr)(w:ay):(ReflectliteValue.parts (.agg #[xK 82,.pointer (some a),.int .u64 406])).run prog w= .ok (some (82,a,406)) w:=al
theorem TT(w:ay):(Go.Extern.Rtype.elem? 84).run prog w= .ok (some 82) w:=al
theorem PC(w:ay):(Go.Extern.Rtype.directlyAssignable 82 82).run prog w= .ok true w:=al
theorem TX(a:Addr)(p:Addr)(w:ay)(h:w.cell? a=some (.pointer (some p))):(Kc #[.agg #[xK 84,.pointer (some a),.int .u64 150]]).run prog w= .ok (.bool false) w:=by
 unfold Kc;rw[Go.Lib.rl_method];simp only[Sem.run_bind,Da,Result.andThen];simp[ReflectliteValue.isNil,loadVar,isAgg,underlying,underlying84,h,Result.andThen]
theorem TW(a:Addr)(p:Addr)(w:ay)(h:w.cell? a=some (.pointer (some p))):(JU #[.agg #[xK 84,.pointer (some a),.int .u64 150]]).run prog w= .ok (.agg #[xK 82,.pointer (some p),.int .u64 406]) w:=by
 unfold JU;rw[Go.Lib.rl_method];simp only[Sem.run_bind,Da,Result.andThen];simp[ReflectliteValue.elem,loadVar,isAgg,underlying,underlying84,h,Result.andThen,TT,ReflectliteValue.mk,Go.Extern.Rtype.handle,wh,LY,ReflectliteValue.flagIndir,ReflectliteValue.flagAddr]
theorem Ew(v x:cH):ReflectliteValue.set #[v,x]=(do
 let(some (c,a,f),some (d,b,_)):=(<-ReflectliteValue.parts v,<-ReflectliteValue.parts x)
  |unsupported (.noEntry "extern/(internal/reflectlite.Value).Set.zeroValue")
 if f/ReflectliteValue.flagAddr %2==0 then unsupported (.noEntry "extern/(internal/reflectlite.Value).Set.unaddressable")
 let e<-loadVar d b
 if<-Go.Extern.Rtype.directlyAssignable c d then storeVar c a e
 else if<-Go.Extern.Rtype.implements c d then
  if(<-Go.Extern.Rtype.kind d)==20 then
   match e with
   | .nilIface=>unsupported (.noEntry "extern/reflectlite: a nil value of one interface type handed on as a value of another")
   |_=>storeVar c a e
  else storeVar c a (.iface d e)
 else panicString ("reflectlite.Set: value of type "++(<-Go.Extern.Rtype.spelt d)++ " is not assignable to type "++(<-Go.Extern.Rtype.spelt c))
 pure (.tuple #[])):=rfl
theorem aal(g:Nat)(b:Addr)(p:Addr)(w:ay)(h:w.cell? b=some (.pointer (some p)))(d:Whole w g 82 #[.pointer none]):
 (ReflectliteValue.set #[.agg #[xK 82,.pointer (some ⟨g,0,none⟩),.int .u64 406],.agg #[xK 82,.pointer (some b),.int .u64 150]]).run prog w= .ok (.tuple #[]) (w.setCell ⟨g,0,none⟩ (.pointer (some p))):=by
 have a:w.cell? ⟨g,0,none⟩=some (.pointer none):=by rw[d.at_];rfl
 have c:=d.free 0;rw[Ew];simp only[Sem.run_bind,PE,PF,Result.andThen];simp[ReflectliteValue.flagAddr,loadVar,isAgg,underlying,underlying82,h,Result.andThen,PC,storeVar,Value.cells,storeCells];rw[Addr.add_mid,run_store _ _ _ _ _ rfl,aW,a];simp[c]
theorem PH(g:Nat)(pv c:Addr)(p:Addr)(w:ay)(j:w.cell? c=some (.pointer (some ⟨g,0,none⟩)))(l:Whole w g 82 #[.pointer none]):
 Calls prog 50 #[.iface 82 (.pointer (some p)),.iface 84 (.pointer (some ⟨g,0,none⟩)),.agg #[xK 84,.pointer (some c),.int .u64 150],IE 82] w
  λe k=>e= .returned (.bool true)/\w.grownBy k (some g)/\Whole k g 82 #[.pointer (some p)]:=by
 have v:= @bJ prog 45 _ Extern.ReflectliteType.typeOf func45 al al al al;have x:= @bJ prog 272 _ aam func272 al al al al;have y:= @bJ prog 84 _ JU func84 al al al al;have z:= @bJ prog 47 _ rU func47 al al al al;have A:= @bJ prog 85 _ ReflectliteValue.set func85 al al al al;have m:=PG;have n:=aak;have B:=FY;obtain⟨w1,a⟩:=aP (w.alloc (.cells #[xK 84,.pointer (some c),.int .u64 150] 124))
 have f:w1.cell? c=some (.pointer (some ⟨g,0,none⟩)):=by
  rw[a];exact(World.cell?_alloc_lt w _ c (aH j)).trans j
 have h:Whole w1 g 82 #[.pointer none]:=by rw[a];exact l.alloc _
 have i:w.grownBy w1 (some g):=by rw[a];exact eK w _ _
 have eV:=TW c ⟨g,0,none⟩ w1 f;have C:=Ju (some p) w1;have d:Whole (w1.alloc (.cells #[.pointer (some p)] 82)) g 82 #[.pointer none]:=h.alloc _;have D:=aal g ⟨w1.heap.size,0,none⟩ p (w1.alloc (.cells #[.pointer (some p)] 82)) bj d;unfold IE at m n⊢
 go_enter func50,ntmps50
 go_wp2
 rw[<-a];refine gO 1 ?_;rw[dX]
 have b:∀q u,(#[xK 84,.pointer (some c),.int .u64 150]:Array Value)[q]?=some u->w1.cell? ⟨w.heap.size,q,none⟩=some u:=λq u o=>by
  rw[a];rw[(Whole.made w 124 _).at_];exact o
 have r:=b 0 _ rfl;have s:=b 1 _ rfl;have t:=b 2 _ rfl;clear b a
 go_wp2
 go_ret
 exact⟨rfl,(i.trans (eK w1 _ _)).trans (aY (g:=g) _ rfl _),by
  exact d.stored 0 (.pointer (some p))⟩
theorem N3{w a:ay}{r}(h:w.grownBy a none):w.grownBy a r:=⟨h.os,h.tape,h.output,h.size,λk b _=>h.block k b bj⟩
theorem F0(g:Nat)(p:Addr)(w:ay)(u:Whole w g 82 #[.pointer none])(o:w.cell? ⟨20,0,none⟩=some (IE 27)):
 Calls prog 22 #[.iface 82 (.pointer (some p)),.iface 84 (.pointer (some ⟨g,0,none⟩))] w
  λe v=>e= .returned (.bool true)/\w.grownBy v (some g)/\Whole v g 82 #[.pointer (some p)]:=by
 have H:= @bJ prog 47 _ rU func47 al al al al;have I:= @bJ prog 48 _ XQ func48 al al al al;have J:= @bJ prog 262 _ Rc func262 al al al al;have K:= @bJ prog 49 _ Kc func49 al al al al;have L:= @bJ prog 274 _ Qt func274 al al al al;have M:= @bJ prog 275 _ XD func275 al al al al;have x:=F6 (some ⟨g,0,none⟩) w;obtain⟨w1,b⟩:=aP (w.alloc (.cells #[.pointer (some ⟨g,0,none⟩)] 84));have c:w1.cell? ⟨w.heap.size,0,none⟩=some (.pointer (some ⟨g,0,none⟩)):=by rw[b,(Whole.made w 84 _).at_];rfl
 have d:Whole w1 g 82 #[.pointer none]:=by rw[b];exact u.alloc _
 have j:w.grownBy w1 (some g):=by rw[b];exact eK w _ _
 have f:w1.cell? ⟨20,0,none⟩=some (IE 27):=by rw[b];exact(World.cell?_alloc_lt w _ _ (aH o)).trans o
 have N:=aa d;have C:=aa c;have q:=aa j;rw[<-b]at x;have y:=λw2:World=>X9 ⟨w.heap.size,0,none⟩ w2;obtain⟨w2,h⟩:=aP (w1.alloc (.cells #[xK 84,.pointer (some ⟨w.heap.size,0,none⟩),.int .u64 150] 124))
 have a:w1.grownBy w2 none/\Whole w2 w1.heap.size 124 #[xK 84,.pointer (some ⟨w.heap.size,0,none⟩),.int .u64 150]:=by
  subst h;exact⟨eK w1 _ _,Whole.made w1 _ _⟩
 have k:Whole w2 g 82 #[.pointer none]:=d.only a.1 bj
 have i:w2.cell? ⟨w.heap.size,0,none⟩=some (.pointer (some ⟨g,0,none⟩)):=by
  rw[<-c];exact df (a.1.block _ (aH c) bj)
 have l:w2.cell? ⟨20,0,none⟩=some (IE 27):=by
  rw[<-f];exact df (a.1.block _ (aH f) bj)
 have c0:w2.cell? ⟨w1.heap.size,0,none⟩=some (xK 84):=by rw[a.2.at_];rfl
 have c1:w2.cell? ⟨w1.heap.size,1,none⟩=some (.pointer (some ⟨w.heap.size,0,none⟩)):=by rw[a.2.at_];rfl
 have c2:w2.cell? ⟨w1.heap.size,2,none⟩=some (.int .u64 150):=by rw[a.2.at_];rfl
 have z:=TX ⟨w.heap.size,0,none⟩ ⟨g,0,none⟩ w2 i;have r:=aa k;have s:=aa i;have m:=aa (a.1);have n:=aa h;have D:=X8;have t:=TY;have A:=TU;have B:=X7;have E:=Eu;have O:=Es;have P:=Et;clear b d j h k i a c f o u;unfold IE at y A B l;simp only[xK]at x y z D t A B E l c0 n
 go_enter func22,ntmps22
 go_wp2_with fail
 rw[<-n.o,z]
 go_wp2_with fail
 refine(PH g ⟨0,0,none⟩ ⟨w.heap.size,0,none⟩ p w2 s.o r.o).mono ?_;rintro e Q ⟨rfl,F,G⟩
 go_wp2_with fail
 go_ret
 exact⟨rfl,(q.o.trans (N3 m.o)).trans F,G⟩
theorem Ja(a:Nat)(s:bB)(c:cH)(w:ay)(h:Whole w a 86 #[.string s,c])(d:w.cell? ⟨20,0,none⟩=some (IE 27)):
 Calls prog 9 #[.iface 82 (.pointer (some ⟨a,0,none⟩))] w λe j=>e= .returned (.string s)/\Below w.heap.size w j:=by
 have f:=aa d;have H:=aa h;clear d h
 go_enter func9,ntmps9
 go_wp2_with fail
 refine(F0 w.heap.size ⟨a,0,none⟩ _ (Whole.made w 82 _) ((World.cell?_alloc_lt w _ _ (aH f.o)).trans f.o)).mono ?_;rintro e w2 ⟨rfl,b,g⟩;have c0:w2.cell? ⟨w.heap.size,0,none⟩=some (.pointer (some ⟨a,0,none⟩)):=by rw[g.at_];rfl
 have i:Whole w2 a 86 #[.string s,c]:=(H.o.alloc _).only b (bE (bD H.o.inside));have c1:w2.cell? ⟨a,0,none⟩=some (.string s):=by rw[i.at_];rfl
 have k:=aa (show Below w.heap.size w w2 from Jx ((aw _ w).alloc (ak _) _) b (ak _));clear b g i
 go_wp2_with fail
 go_ret
 exact⟨rfl,k.o⟩
end Go.Proofs.P
namespace Go.Spk
def Sub(pr po:Array Value)(w:World)(g:Nat)(T:TypeId)(cs:Array Value):Prop:=Whole w g T (pr++cs++po)
section
variable {pr po:Array Value}{w w':World}{g:Nat}{T:TypeId}{cs:Array Value}
theorem Sub.inside(h:Sub pr po w g T cs):g<w.heap.size:=Whole.inside h
theorem Sub.below{B}(h:Sub pr po w g T cs)(a:Below B w w')(b:g<B):Sub pr po w' g T cs:=Whole.below h a b
theorem Sub.alloc(h:Sub pr po w g T cs)(o:Obj):Sub pr po (w.alloc o) g T cs:=Whole.alloc h o
theorem Sub.drew(h:Sub pr po w g T cs):Sub pr po w.drew g T cs:=Whole.drew h
theorem Sub.free(h:Sub pr po w g T cs)(i:Nat):w.frozen? ⟨g,pr.size+i,none⟩=false:=Whole.free h _
theorem Sub.XB(h:Sub pr po w g T cs):w.frozen? ⟨g,pr.size,none⟩=false:=Whole.free h _
theorem Sub.at_(h:Sub pr po w g T cs)(i:Nat)(a:i<cs.size):w.cell? ⟨g,pr.size+i,none⟩=cs[i]?:=by
 rw[Whole.at_ h,Array.append_assoc,Array.getElem?_append_right af,Array.getElem?_append_left af];congr 1;omega
theorem Sub.stored(h:Sub pr po w g T cs)(i:Nat)(b:i<cs.size)(v:cH):Sub pr po (w.setCell ⟨g,pr.size+i,none⟩ v) g T (cs.setIfInBounds i v):=by
 have a:=Whole.stored h (pr.size+i) v
 have e:(pr++cs++po).setIfInBounds (pr.size+i) v=pr++cs.setIfInBounds i v++po:=by
  apply tr;simp only[Array.toList_append,Array.toList_setIfInBounds];rw[List.set_append_left _ _ (by simp;omega),List.set_append_right _ _ bj];simp
 rw[e]at a;exact a
theorem Sub.FE{old vs:gF}{a b}(h:Sub pr po w g T (a++old.toArray++b))(hl:old.length=vs.length):Sub pr po (w.setCells g (pr.size+a.size) vs) g T (a++vs.toArray++b):=by
 have d:Whole w g T ((pr++a).toList++old++(b++po).toList).toArray:=by
  have e:((pr++a).toList++old++(b++po).toList).toArray=pr++(a++old.toArray++b)++po:=by apply tr;simp
  rw[e];exact h
 have c:=d.FE vs (pr++a).toList old (b++po).toList hl;have e:((pr++a).toList++vs++(b++po).toList).toArray=pr++(a++vs.toArray++b)++po:=by apply tr;simp
 rw[e,show(pr++a).toList.length=pr.size+a.size by simp]at c;exact c
end
end Go.Spk
namespace Go.Proofs.P.Off
open Go.Proofs.P
attribute [local go_sem ↓] Go.wp_at_zero Go.wp_at_succ
section
variable {pr po:Array Value}{T:TypeId}
theorem rI(n:Nat)(b:Bool)(a:aR)(rest:gJ):(dU n b a++rest).size=2+a.length+rest.size:=by rw[fJ];simp;omega
theorem mA{w}{g}{n}{b}{ks}{rest}(h:Sub pr po w g T (dU n b ks++rest)):
 w.cell? ⟨g,pr.size,none⟩=some (.int .u64 n)/\w.cell? ⟨g,pr.size+1,none⟩=some (.bool b):=by
 have a:=h.at_ 0 (by rw[rI];omega);rw[vr]at a;rw[a,h.at_ 1 (by rw[rI];omega),fJ];exact⟨rfl,rfl⟩
theorem A7{w}{g}{n}{b}{a}{rest}(h:Sub pr po w g T (dU n b a++rest)):w.rangeAt g (pr.size+2) (a.map (Value.int .u8)):=by
 intro j v c
 have d:j<a.length:=by
  have:=(aI.1 c).1;simpa using this
 rw[Nat.add_assoc,h.at_ (2+j) (by rw[rI];omega),fJ,eg,bf,qY bj,jb (by simp;omega)];simpa using c
theorem Kk{w}{g}{n}{b}{ks}{rest}(h:Sub pr po w g T (dU n b ks++rest))(a:ks.length=32):w.there g (pr.size+2) 32:=λj c=>
 ⟨(A7 h).isSome j (by simpa[a]using c),Whole.free h _⟩
theorem Hu{w}{g}{n}{b}{c a}{rest}(h:Sub pr po w g T (dU n b c++rest))(f:c.length=32)(i:a.length=32):
 Sub pr po ((w.setCell ⟨g,pr.size+1,none⟩ (.bool true)).setCells g (pr.size+2) (a.map (Value.int .u8))) g T (dU n true a++rest)/\w.grownBy ((w.setCell ⟨g,pr.size+1,none⟩ (.bool true)).setCells g (pr.size+2) (a.map (Value.int .u8))) (some g):=by
 refine⟨?_,aZ (aY _ rfl _) (vM _ _ _ _)⟩;have d:=h.stored 1 (by rw[rI];omega) (.bool true)
 have e:(dU n b c++rest).setIfInBounds 1 (.bool true)= #[Value.int .u64 n,Value.bool true]++(c.map (Value.int .u8)).toArray++rest:=by
  rw[fJ];simp
 rw[e]at d;have j:=d.FE (vs:=a.map (Value.int .u8)) (by simp[f,i]);rw[fJ];have k:([Value.int .u64 n,Value.bool true]++a.map (Value.int .u8)++rest.toList).toArray= #[Value.int .u64 n,Value.bool true]++(a.map (Value.int .u8)).toArray++rest:=by apply tr;simp
 rw[k];exact j
theorem DI{w}{g}{n}{b}{a}{rest}(h:Sub pr po w g T (dU n b a++rest)):Sub pr po (w.setCell ⟨g,pr.size,none⟩ (.int .u64 ((n+1:Nat):Int))) g T (dU (n+1) b a++rest):=by
 have c:=h.stored 0 (by rw[rI];omega) (.int .u64 ((n+1:Nat):Int))
 have e:(dU n b a++rest).setIfInBounds 0 (.int .u64 ((n+1:Nat):Int))=dU (n+1) b a++rest:=by
  rw[fJ,fJ];simp
 rwa[e,vr]at c
theorem yG(g:Nat)(b:Bool)(w:ay)(h:w.cell? ⟨g,pr.size+1,none⟩=some (.bool b)):
 Calls prog 112 #[.pointer (some ⟨g,pr.size,none⟩)] w λe w'=>e= .returned (.int .i64 (if b then 0 else 4))/\w'=w:=by
 cases b
 all_goals
  go_enter func112,ntmps112
  go_wp2
  go_ret
  exact⟨rfl,rfl⟩
theorem Ba(g n:Nat)(b:Bool)(o a:aR)(T:fg)(rest:gJ)(p:o.length=32)(m:a.length=32)(w:ay)(h:Sub pr po w g T (dU n b o++rest)):
 Calls prog 196 #[.pointer (some ⟨g,pr.size,none⟩),.agg (ai .u8 a)] w λe w'=>e= .returned (.tuple #[])/\Sub pr po w' g T (dU n true a++rest)/\w.grownBy w' (some g):=by
 have C:=underlying22;have D:(prog.info? 22).map (·.size)=some (a.map (Value.int .u8)).length:=by rw[aM,m];kernel_rfl
 have E:(a.map (Value.int .u8)).length=32:=by simpa using m
 have r:∀v∈a.map (Value.int .u8),v.oneCell'=true:=by
  intro v q;obtain⟨z,_,rfl⟩:=fZ.1 q
  rfl
 have i:Sub pr po (w.alloc (.cells (ai .u8 a) 22)) g T (dU n b o++rest):=h.alloc _
 have d:(w.alloc (.cells (ai .u8 a) 22)).rangeAt w.heap.size 0 (a.map (Value.int .u8)):=by
  intro j v q;rw[aW,(Whole.made w 22 (ai .u8 a)).at_];simpa[ai]using q
 have c1:=(mA i).2;have F:=i.free 1;have s:=Kk i p;have c:=Hu (i.drew) p m;have y:=aa (And.intro c.1 (aZ (iq (eK w (.cells (ai .u8 a) 22) (some g))) c.2))
 have t:∀W:World,(W.rangeAt w.heap.size 0 (a.map (Value.int .u8))/\W.there g (pr.size+2) 32)->((W.setCell ⟨g,pr.size+1,none⟩ (.bool true)).drew.rangeAt w.heap.size 0 (a.map (Value.int .u8))/\(W.setCell ⟨g,pr.size+1,none⟩ (.bool true)).drew.there g (pr.size+2) 32)/\
  ((W.setCell ⟨g,pr.size+1,none⟩ (.bool true)).drew.setCells g (pr.size+2) (a.map (Value.int .u8))).rangeAt w.heap.size 0 (a.map (Value.int .u8))/\((W.setCell ⟨g,pr.size+1,none⟩ (.bool true)).drew.setCells g (pr.size+2) (a.map (Value.int .u8))).there g (pr.size+2) 32:=by
  intro W ⟨A,B⟩;have k:w.heap.size≠g:=eq h.inside;have u:(W.setCell ⟨g,pr.size+1,none⟩ (.bool true)).drew.rangeAt w.heap.size 0 (a.map (Value.int .u8)):=World.rangeAt_setCells_apart A g (pr.size+1) [.bool true] (.inl k);have x:(W.setCell ⟨g,pr.size+1,none⟩ (.bool true)).drew.there g (pr.size+2) 32:=World.there_setCells B g (pr.size+1) [.bool true];exact⟨⟨u,x⟩,World.rangeAt_setCells_apart u g (pr.size+2) _ (.inl k),World.there_setCells x g (pr.size+2) _⟩
 have l:=t _ ⟨d,s⟩;clear t;have f:=aa (show _/\_ from⟨(⟨d,s⟩:_/\_),l⟩);clear l;clear c i h m p
 go_enter func196,ntmps196
 go_wp2_with fail
 go_region_held3 (λw'=>w'.rangeAt w.heap.size 0 (a.map (Value.int .u8))/\w'.there g (pr.size+2) 32) (first|exact f.o.1|exact f.o.2.1|exact f.o.2.2) (fail)
 all_goals
  go_wp2_with fail
  go_end0
  exact⟨rfl,y.o⟩
theorem Je(g n:Nat)(b:Bool)(d a:aR)(T:fg)(rest:gJ)(m:d.length=32)(f:a.length=32)(w:ay)(h:Sub pr po w g T (dU n b d++rest)):
 Calls prog 191 #[.pointer (some ⟨g,pr.size,none⟩),.agg (ai .u8 a)] w λe w'=>e= .returned (.tuple #[])/\Sub pr po w' g T (dU n true a++rest)/\w.grownBy w' (some g):=by
 have y:=underlying22;have z:(prog.info? 22).map (·.size)=some (a.map (Value.int .u8)).length:=by rw[aM,f];kernel_rfl
 have A:(a.map (Value.int .u8)).length=32:=by simpa using f
 have c:(w.alloc (.cells (ai .u8 a) 22)).rangeAt w.heap.size 0 (a.map (Value.int .u8)):=by
  intro j v q;rw[aW,(Whole.made w 22 (ai .u8 a)).at_];simpa[ai]using q
 have o:=aa (show(w.alloc (.cells (ai .u8 a) 22)).drew.rangeAt w.heap.size 0 (a.map (Value.int .u8))from c);have r:=aa (show Sub pr po (w.alloc (.cells (ai .u8 a) 22)).drew g T (dU n b d++rest)from h.alloc _);have s:=aa (show w.grownBy (w.alloc (.cells (ai .u8 a) 22)).drew (some g)from iq (eK w _ _));have i:=aa h.inside;have t:=aa m;have u:=aa f;clear c h m f
 go_enter func191,ntmps191
 go_wp2_with fail
 go_region_held3 (λw'=>w'.rangeAt w.heap.size 0 (a.map (Value.int .u8))) (first|exact o.o|exact k.o) ((go_at_call 196;refine(Ba g n b d a T rest t.o u.o _ r.o).mono ?_;rintro e w1 ⟨rfl,p,l⟩;have k:=aa (w8 o.o l bj (bE (eq i.o)));have x:=aa (And.intro p (aZ s.o l));clear p l))
 all_goals
  go_wp2_with fail
  go_end0
  exact⟨rfl,x.o⟩
theorem Fs(g n:Nat)(b:Bool)(d a:aR)(T:fg)(rest:gJ)(m:d.length=32)(f:a.length=32)(w:ay)(h:Sub pr po w g T (dU n b d++rest)):
 Calls prog 160 #[.pointer (some ⟨g,pr.size,none⟩),.agg (ai .u8 a)] w λe w'=>e= .returned (.tuple #[])/\Sub pr po w' g T (dU n true a++rest)/\w.grownBy w' (some g):=by
 have y:=underlying22;have z:(prog.info? 22).map (·.size)=some (a.map (Value.int .u8)).length:=by rw[aM,f];kernel_rfl
 have A:(a.map (Value.int .u8)).length=32:=by simpa using f
 have c:(w.alloc (.cells (ai .u8 a) 22)).rangeAt w.heap.size 0 (a.map (Value.int .u8)):=by
  intro j v q;rw[aW,(Whole.made w 22 (ai .u8 a)).at_];simpa[ai]using q
 have o:=aa (show(w.alloc (.cells (ai .u8 a) 22)).drew.rangeAt w.heap.size 0 (a.map (Value.int .u8))from c);have r:=aa (show Sub pr po (w.alloc (.cells (ai .u8 a) 22)).drew g T (dU n b d++rest)from h.alloc _);have s:=aa (show w.grownBy (w.alloc (.cells (ai .u8 a) 22)).drew (some g)from iq (eK w _ _));have i:=aa h.inside;have t:=aa m;have u:=aa f;clear c h m f
 go_enter func160,ntmps160
 go_wp2_with fail
 go_region_held3 (λw'=>w'.rangeAt w.heap.size 0 (a.map (Value.int .u8))) (first|exact o.o|exact k.o) ((go_at_call 196;refine(Ba g n b d a T rest t.o u.o _ r.o).mono ?_;rintro e w1 ⟨rfl,p,l⟩;have k:=aa (w8 o.o l bj (bE (eq i.o)));have x:=aa (And.intro p (aZ s.o l));clear p l))
 all_goals
  go_wp2_with fail
  go_end0
  exact⟨rfl,x.o⟩
attribute [local go_sem ↓] Nh Nj
theorem y6(g n:Nat)(b:Bool)(ks:aR)(T:fg)(rest:gJ)(O:n<18446744073709551616)(w:ay)(h:Sub pr po w g T (dU n b ks++rest)):
 Calls prog 133 #[.pointer (some ⟨g,pr.size,none⟩)] w λe w'=>e= .returned (.agg (ai .u8 (mB n)))/\Below w.heap.size w w':=by
 obtain⟨N,q⟩:=aP (mB n);have f:N.length=12:=by rw[q];exact rf n
 have r:∀b∈N,0<=b/\b<=255:=by rw[q];exact vK n
 have i:(strOfNums N).size=12:=by rw[bG,f]
 have D:=aa (by rw[ag,f];kernel_rfl:(prog.info? 241).map (·.size)=some (ai .u8 N).size);have Q:=aa (by rw[aM,f];kernel_rfl:(prog.info? 241).map (·.size)=some (N.map (Value.int .u8)).length);rw[<-q];have HN:=aa q;have d:=aa f;have s:=aa r;have E:=aa i;have B:=aa h.inside;have HC:=aa (mA h).1;have HW:=aa O;clear q f r i h O
 go_enter func133,ntmps133
 go_wp2_with fail
 generalize t:(w.alloc _).alloc _=j
 have hF:Below w.heap.size w j/\Whole j w.heap.size 241 (ai .u8 (List.replicate 12 0))/\Whole j (w.heap.size+1) 156 #[.pointer none,.slice none 0 0]:=by
  subst t;exact⟨by go_grown,(Whole.new rfl rfl).alloc _,Whole.new bj rfl⟩
 have c0:j.drew.cell? ⟨g,pr.size,none⟩=some (.int .u64 n):=(hF.1.cell (p:=⟨g,pr.size,none⟩) B.o).trans HC.o;have R:=aa hF;have F:=aa (show gH 156 5 (w.heap.size+1) (w.heap.size+1) [] j.drew from BX.fresh _ hF.2.2)
 have S:=aa (show∀(w1 w2 a:World) (c:Nat),j5 (w.heap.size+1) (w.heap.size+1) j.drew w1->j5 (w.heap.size+1) (w.heap.size+1) w1 w2->j5 (w.heap.size+1) (w.heap.size+1) w2 a->Whole (Xw a (strOfNums N) c) w.heap.size 241 (ai .u8 (List.replicate 12 0))/\Below w.heap.size w (Xw a (strOfNums N) c)from λw1 w2 a c u v o=>by
  have U:=((u.trans v).trans o).below (C:=w.heap.size+1) (ak _) (ak _);have V:Whole a w.heap.size 241 (ai .u8 (List.replicate 12 0)):=Whole.below (w:=j.drew) hF.2.1 U (Nat.lt_succ_self _);exact⟨(V.alloc _).drew,bA (((bA hF.1 1).trans ((U.mono (Nat.le_succ _)))).alloc (fI V.inside) _) 1⟩)
 clear t hF
 go_region_with (first
  |(go_at_call 67;refine(Ee 0 an _ _ _ _ F.o bj (by have:=R.o.2.2.inside;show _<=j.heap.size;omega)).mono ?_;rintro e w1 ⟨rfl,X,u⟩;have c1:w1.cell? ⟨g,pr.size,none⟩=some (.int .u64 n):=((u.below (Nat.le_succ _) (Nat.le_succ _)).cell (p:=⟨g,pr.size,none⟩) B.o).trans c0;have G:=aa X;have m:=aa u;clear X u)
  |(go_at_call 174;refine(O1 n HW.o _ _ _ _ G.o (by simp[qJ]) (by have:=R.o.2.2.inside;have:=m.o.size;exact ap (fI ‹_›) this)).mono ?_;rintro e w2 ⟨rfl,Y,v⟩;have c2:w2.cell? ⟨g,pr.size,none⟩=some (.int .u64 n):=((v.below (Nat.le_succ _) (Nat.le_succ _)).cell (p:=⟨g,pr.size,none⟩) B.o).trans c1;have H:=aa Y;have x:=aa v;clear Y v)
  |(go_at_call 76;refine(fK _ _ N s.o _ (by have h:=iJ.of H.o;rw[eo,<-cN,show qJ 0 4 4++qJ n 8 8=N from HN.o.symm]at h;exact h) (λe=>by have:=d.o;rw[e]at this;cases this)).mono ?_;rintro e a ⟨rfl,h3,o⟩;have c3:a.cell? ⟨g,pr.size,none⟩=some (.int .u64 n):=((o.below (Nat.le_succ _) (Nat.le_succ _)).cell (p:=⟨g,pr.size,none⟩) B.o).trans c2;have I:=aa o;have i:=E.o;have J:=gD (P:=prog) a 9 99 5 (strOfNums N) underlying9 underlying99 underlying5;have y:=run_arrayAt (P:=prog) (w:=Xw a (strOfNums N) (grownCap a 12 0 5)) 241 5 12 (some ⟨a.heap.size,0,none⟩) 12 (grownCap a 12 0 5) underlying241 an;have K:Pn 12 N:=⟨d.o,s.o⟩;have z:Pv (Xw a (strOfNums N) (grownCap a 12 0 5)) (.pointer (some ⟨w.heap.size,0,none⟩)) 12:=⟨_,rfl,by have h:=IW (new:=ai .u8 N) (S.o _ _ a (grownCap a 12 0 5) m.o x.o o).1 (by simp[ai,d.o]);rw[ag,d.o]at h;exact h⟩;have L:XY 12 (.agg (ai .u8 N)):=⟨N,d.o,rfl⟩;unfold Xw at y z;clear h3 o))
 all_goals
  clear J y z L K i c1 c2 c3;generalize grownCap a 12 0 5=c;generalize t:World.setCells _ _ _ _=W
  have l:Whole W w.heap.size 241 (ai .u8 N)/\Below w.heap.size w W:=by
   subst t;obtain⟨q1,Z⟩:=S.o w1 w2 a c m.o x.o I.o;exact⟨LH q1 (by rw[ag,ag,d.o];rfl),Z.grown (vM _ _ _ _) Z.size (λk M=>by injection M with M;subst M;exact ak _)⟩
  have A:=aa l;clear l t
  go_wp2_with fail
  exact cI (im (fn:=f133) (p:=2) rfl _ _ w.heap.size 241 (ai .u8 N) (0,0) _ rfl A.o.1 underlying241 rfl D.o) rfl ⟨rfl,A.o.2⟩
end
end Go.Proofs.P.Off
namespace Go.Proofs.P.Off
open Go.Proofs.P
attribute [local go_sem ↓] Go.wp_at_zero Go.wp_at_succ
section
variable {pr po:Array Value}{T:TypeId}
theorem KE(g n:Nat)(b:Bool)(c:aR)(p:bB)(hk:c.length=32)(bk:jr c)(h1:1<=p.size)(hl:p.size<=32768)(hn:n<=1000000000)(w:ay)(h:Sub pr po w g T (dU n b c++ #[]))
 (
  t0:w.rangeAt 25 0 (fG.map (Value.int .u32))) (t1:w.rangeAt 26 0 j9):
  Calls prog 102 #[.pointer (some ⟨g,pr.size,none⟩),.string p] w λe w'=>e= .returned (.tuple #[.string (strOfNums (aV b c n (bI p))),.nilIface])/\Sub pr po w' g T (dU (n+1) b c++ #[])/\w.grownBy w' (some g):=by
 have T0:=aa t0;have T1:=aa t1;have M:=ZN h1;have bq:p.toList.isEmpty=false:=by simpa using M
 have br:(!p.toList.isEmpty)=true:=by simpa using M
 have i1:¬(32768:Int)<p.size:=af;have c1:=(mA h).2;have d:=aa (oK b p.size);have HP:=aa (VT b p.size);obtain⟨Z,N⟩:=aP (ta b p.size);obtain⟨Y,hY⟩:=aP (qL b (bI p));obtain⟨X,hX⟩:=aP (strOfNums (Fi b c n (bI p)));have y:Z.length=4:=by rw[N];exact lL _ _
 have O:∀z∈Z,0<=z/\z<=255:=by rw[N];exact qK _ _ _
 have Q:∀z∈Y,0<=z/\z<=255:=by rw[hY];exact ut b _ (c8 p)
 have R:Y.length=p.size+1+oY b p.size:=by rw[hY,nc,aj]
 have a3:X.size<=33000:=by
  have:=oK b (bI p).length;rw[aj]at this;rw[hX,bG,tZ,aj];unfold vQ
  split<;>omega
 have v:strOfNums Z++X=strOfNums (aV b c n (bI p)):=by
  rw[hX,N,<-Ad];unfold aV;rw[aj]
 have j:(strOfNums Z).size+X.size<=9223372036854775807:=by rw[bG,y];omega
 rw[<-v];have HZ:=aa N;have HY:=aa hY;have HX:=aa hX;have q:=aa y;have r:=aa O;have S:=aa Q;have U:=aa R;have x:=aa j;have k:=aa h;have HK:=aa hk;have BK:=aa bk;have HN:=aa hn;have HI:=aa (by rw[ag,hk];kernel_rfl:(prog.info? 22).map (·.size)=some (ai .u8 c).size);clear t0 t1 h hk bk hn N hY hX y O Q R a3 v j
 go_enter func102,ntmps102
 go_wp2_with fail
 refine(yG g b _ c1).mono ?_;rintro e w' ⟨rfl,hw⟩;obtain rfl:=hw.symm;have ha:(if b then(0:Int)else 4)=((m8 b:Nat):Int):=by cases b<;>rfl
 rw[ha];have a4:((m8 b:Nat):Int)<=4:=by cases b<;>decide
 clear ha
 go_wp2_with fail
 rw[HP.o];generalize hP:oY b p.size=P at d;have A:=aa hP;clear hP HP a4;have hm:(p.size:Int)+1+(P:Int)=((p.size+1+P:Nat):Int):=by push_cast;rfl
 rw[hm];clear hm;generalize a:(w.alloc _).alloc _=V
 have ab:Below w.heap.size w V/\Whole V w.heap.size 156 #[.pointer none,.slice none 0 0]/\Whole V (w.heap.size+1) 156 #[.pointer none,.slice none 0 0]/\V.heap.size=w.heap.size+2:=by
  subst a;exact⟨by go_grown,(Whole.new rfl rfl).alloc _,Whole.new bj rfl,bj⟩
 have l:=aa ab;clear a ab;refine(Ee (p.size+1+P) (dp d.o) (w.heap.size+2) w.heap.size [] V (BX.fresh _ l.o.2.1) bj (Nat.le_of_eq l.o.2.2.2.symm)).mono ?_;rintro e s ⟨rfl,ad,t⟩
 have a5:=aa (show gH 156 5 (w.heap.size+2) w.heap.size (Z.map (Value.int .u8)) s by
  rw[HZ.o];unfold ta;rw[A.o];exact ad)
 have a6:=aa (l.o.1.trans (t.below (Nat.le_add_right _ _) (ak _)));have a7:=aa (show Whole s (w.heap.size+1) 156 #[.pointer none,.slice none 0 0]from(t.block (w.heap.size+1) af af).trans l.o.2.2.1);have a8:=aa (show w.heap.size+2<=s.heap.size from l.o.2.2.2▸t.size);clear ad t;have a9:IntKind.u8.wrap (P:Int)=P:=by rw[jf];have:=d.o;omega
 go_wp2_with fail
 clear a9;refine(CC s.heap.size (w.heap.size+1) [] P s (BX.fresh _ a7.o) bj (ak _)).mono ?_;rintro e W2 ⟨rfl,an,ao⟩;have ba:=aa an;have av:=aa ao;clear an ao
 go_wp2_with fail
 refine(wU s.heap.size (w.heap.size+1) _ p W2 ba.o (by simp;omega) av.o.size).mono ?_;rintro e W3 ⟨rfl,ax,az⟩;have bb:=aa ax;have aB:=aa (av.o.trans az);clear ax az
 go_wp2_with fail
 refine(strings_Repeat ⟨#[0]⟩ P W3 (dp d.o) (by have:=d.o;show 1*P<=_;omega)).mono ?_;obtain⟨zs,B⟩:=aP ((⟨(Lib.repeatL (ByteArray.mk #[0]).data.toList P).toArray⟩:ByteArray));have C:bI zs=List.replicate P 0:=by rw[B,sF]
 have bs:zs.size<=11:=by rw[<-aj,C,eh];exact d.o.2
 rw[<-B];have bc:=aa C;clear B C;rintro e W4 ⟨rfl,D⟩;have bd:=aa (bb.o.below D);have aC:=aa (aB.o.trans (j5.cL (D.mono aB.o.size)));clear D
 go_wp2_with fail
 refine(wU s.heap.size (w.heap.size+1) _ zs W4 bd.o (by simp[Lib.strCells_length];omega) aC.o.size).mono ?_;rintro e W5 ⟨rfl,aE,aF⟩
 have be:=aa (show iJ 156 5 s.heap.size (w.heap.size+1) (Y.map (Value.int .u8)) W5 by
  have h:=iJ.of aE;rw[ui,ui,bc.o,eo,show[Value.int .u8 (P:Int)]= [(P:Int)].map (Value.int .u8)from rfl,<-cN,<-cN]at h;rw[HY.o];unfold qL;rw[aj,A.o];exact h)
 have bg:=aa (aC.o.trans aF);clear aE aF
 go_wp2_with fail
 refine(fK s.heap.size (w.heap.size+1) Y S.o W5 be.o (λe=>by have:=U.o;rw[e]at this;simp at this;omega)).mono ?_;rintro e W6 ⟨rfl,bh,aG⟩;have aK:=aa (bg.o.trans aG);have m:=aa (And.intro (a6.o.trans (aK.o.below (dp a8.o) af)) (iJ.of (a5.o.apt aK.o (ak _) af af)));have u:=aa (k.o.below m.o.1 k.o.inside);clear bh aG;have c1:=(mA u.o).2;have hn:=HN.o
 have bt:IntKind.u64.wrap ((n:Int)+1)=(n:Int)+1:=by
  have e:IntKind.u64.wrap ((n:Int)+1)=((n:Int)+1) %18446744073709551616:=by simp[IntKind.wrap,IntKind.bits,IntKind.signed]
  rw[e];omega
 cases b
 .have c0:=(mA u.o).1;have f0:=u.o.XB;have bl:=aa (by rw[HX.o,HY.o];rfl:strOfNums Y=X)
  go_wp2_with fail
  rw[bl.o];generalize a:World.setCell _ _ _=L
  have E:=aa (show Sub pr po L g T (dU (n+1) false c++ #[])/\w.grownBy L (some g)/\iJ 156 5 (w.heap.size+2) w.heap.size (Z.map (Value.int .u8)) L from by
   have hg:=k.o.inside;subst a;exact⟨DI u.o,aZ (bR m.o.1 _) (aY _ rfl _),m.o.2.grown (g:=g) (aY _ rfl _) (eq hg) af⟩)
  clear a c0 f0 c1;refine(fK (w.heap.size+2) w.heap.size Z r.o L E.o.2.2 (λe=>by have:=q.o;rw[e]at this;cases this)).mono ?_;rintro e F ⟨rfl,bm,aS⟩;have i:Below w.heap.size L F:=aS.below af (ak _);have o:=aa (And.intro (E.o.1.below i k.o.inside) (Bf E.o.2.1 i (ak _)));clear bm aS i;have j:=x.o
  go_wp2_with fail
  go_ret2
  exact⟨rfl,o.o⟩
 .have G:=aa (And.intro (rf n) (cm (vK n)));generalize aU:mB n=NN at G;have aX:=aa aU
  have bn:=aa (show strOfNums (mi c NN (bI (strOfNums Y)) (bI (strOfNums Z)))=X by
   rw[HX.o,cJ S.o,cJ r.o,aX.o.symm,HY.o,HZ.o];unfold Fi;rw[aj];rfl)
  have a0:=aa (show(strOfNums Y).size<=1000000/\(strOfNums Z).size<=1000000 by rw[bG,bG,U.o,q.o,A.o];have:=d.o;omega);clear aU
  go_wp2_with fail
  refine iI (λW=>Below w.heap.size w W/\iJ 156 5 (w.heap.size+2) w.heap.size (Z.map (Value.int .u8)) W) al al ⟨bA m.o.1 1,m.o.2⟩ ?_;refine mD (.pointer (some ⟨g,pr.size,none⟩)) ?_;refine mD (.pointer (some ⟨g,pr.size,none⟩)) ?_;refine mD (.pointer (some ⟨g,pr.size,none⟩)) ?_;refine mD (.pointer (some ⟨g,pr.size+2,none⟩)) ?_;refine e9 (λK hK=> ?_);refine ub al 22 (.tmp 56) rfl g (pr.size+2) rfl (ai .u8 c) _ (λW a=>A7 (k.o.below a.1 k.o.inside)) underlying22 rfl HI.o ?_;go_simp;refine hK _ ?_;clear hK K;refine mD (.pointer (some ⟨g,pr.size,none⟩)) ?_;refine mD (.pointer (some ⟨g,pr.size,none⟩)) ?_;refine mD (.pointer (some ⟨g,pr.size,none⟩)) ?_;refine xO (.agg (ai .u8 NN)) (λW a=> ?_) ?_
  .refine cZ (f:=133) (args:=(#[.pointer (some ⟨g,pr.size,none⟩)])) fN ?_;refine(y6 g n true c _ #[] (dp HN.o) W (k.o.below a.1 k.o.inside)).mono ?_;rw[aX.o];rintro e W' ⟨rfl,H⟩;exact⟨rfl,a.1.trans (H.mono a.1.size),a.2.below H⟩
  refine mD (.string (strOfNums Y)) ?_;refine xO (.string (strOfNums Z)) (λW a=> ?_) ?_
  .refine cZ (f:=76) (args:=(#[.pointer (some ⟨w.heap.size,0,none⟩)])) fN ?_;refine(fK (w.heap.size+2) w.heap.size Z r.o W a.2 (λe=>by have:=q.o;rw[e]at this;cases this)).mono ?_;rintro e W' ⟨rfl,H,ha⟩;exact⟨rfl,a.1.trans (ha.below af (ak _)),H⟩
  refine xO (.string X) (λW a=> ?_) ?_
  .refine cZ (f:=132) (args:=(#[.agg (ai .u8 c),.agg (ai .u8 NN),.string (strOfNums Y),.string (strOfNums Z)])) fN ?_;refine(It c NN (strOfNums Y) (strOfNums Z) HK.o G.o.1 BK.o G.o.2 a0.o.1 a0.o.2 W (cT T0.o a.1) (cT T1.o a.1)).mono ?_;rw[bn.o];rintro e W' ⟨rfl,H⟩;exact⟨rfl,a.1.trans (H.mono a.1.size),a.2.below H⟩
  refine mD (.string X) ?_;refine q5 ?_;intro L I;have a1:=aa I;have J:=aa (k.o.below I.1 k.o.inside);clear I c1;have c0:=(mA J.o).1;have f0:=J.o.XB
  go_wp2_with fail
  generalize a:World.setCell _ _ _=F
  have o:=aa (show Sub pr po F g T (dU (n+1) true c++ #[])/\w.grownBy F (some g)/\iJ 156 5 (w.heap.size+2) w.heap.size (Z.map (Value.int .u8)) F from by
   have hg:=k.o.inside;subst a;exact⟨DI J.o,aZ (bR a1.o.1 _) (aY _ rfl _),a1.o.2.grown (g:=g) (aY _ rfl _) (eq hg) af⟩)
  clear a c0 f0;refine(fK (w.heap.size+2) w.heap.size Z r.o F o.o.2.2 (λe=>by have:=q.o;rw[e]at this;cases this)).mono ?_;rintro e W9 ⟨rfl,bo,a2⟩;have i:Below w.heap.size F W9:=a2.below af (ak _);have bp:=aa (And.intro (o.o.1.below i k.o.inside) (Bf o.o.2.1 i (ak _)));clear bo a2 i;have j:=x.o
  go_wp2_with fail
  go_ret2
  exact⟨rfl,bp.o⟩
end
end Go.Proofs.P.Off
namespace Go.Proofs.P.Off
open Go.Proofs.P
attribute [local go_sem ↓] Go.wp_at_zero Go.wp_at_succ
section
variable {pr po:Array Value}{T:TypeId}
theorem Iw(g n:Nat)(b:Bool)(c:aR)(T:fg)(rest:gJ)(size s:bB)(q:c.length=32)(E:jr c)(F:n<=1000000000)(hz:size.size<=1000000)(Y:s.size<=1000000)(l m:cH)(w:ay)(h:Sub pr po w g T (dU n b c++rest))
 (G:w.rangeAt 25 0 (fG.map (Value.int .u32))) (H:w.rangeAt 26 0 j9)
 (
  r:w.cell? ⟨1,0,none⟩=some l) (t:w.cell? ⟨4,0,none⟩=some m):
  Calls prog 113 #[.pointer (some ⟨g,pr.size,none⟩),.string size,.string s] w λe J=>e= .returned (Gd b c n size s l m)/\Below w.heap.size w J:=by
 have c1:=(mA h).2;cases b
 .unfold Gd;simp only[Bool.false_eq_true,if_false,fq]
  go_enter func113,ntmps113
  go_wp2_with fail
  go_ret2
  exact⟨rfl,aw _ _⟩
 .unfold Gd;simp only[if_true];have L:=aa G;have M:=aa H;have d:=aa (And.intro (rf n) (cm (vK n)));generalize i:mB n=j at d⊢;have u:=aa i;obtain⟨O,v⟩:=aP (strOfNums (sY c j (bI s) (bI size)));obtain⟨V,x⟩:=aP (EP (sX c j (bI s) (bI size)) l m);rw[<-v,<-x];have N:=aa v;have P:=aa x;have y:=aa (aH r);have z:=aa (aH t);have A:=aa r;have B:=aa t;have Q:=aa (by rw[ag,q];kernel_rfl:(prog.info? 22).map (·.size)=some (ai .u8 c).size);have o:=aa h;have R:=aa q;have S:=aa E;have U:=aa F;clear i v x G H r t h q E F
  go_enter func113,ntmps113
  go_wp2_with fail
  refine iI (λW=>Below w.heap.size w W) al al (bA (aw _ _) 1) ?_;refine mD (.pointer (some ⟨g,pr.size,none⟩)) ?_;refine mD (.pointer (some ⟨g,pr.size,none⟩)) ?_;refine mD (.pointer (some ⟨g,pr.size,none⟩)) ?_;refine mD (.pointer (some ⟨g,pr.size+2,none⟩)) ?_;refine e9 (λK I=> ?_);refine ub al 22 (.tmp 18) rfl g (pr.size+2) rfl (ai .u8 c) _ (λW a=>A7 (o.o.below a o.o.inside)) underlying22 rfl Q.o ?_;go_simp;refine I _ ?_;clear I K;refine mD (.pointer (some ⟨g,pr.size,none⟩)) ?_;refine mD (.pointer (some ⟨g,pr.size,none⟩)) ?_;refine mD (.pointer (some ⟨g,pr.size,none⟩)) ?_;refine xO (.agg (ai .u8 j)) (λW a=> ?_) ?_
  .refine cZ (f:=133) (args:=(#[.pointer (some ⟨g,pr.size,none⟩)])) fN ?_;refine(y6 g n true c _ rest (dp U.o) W (o.o.below a o.o.inside)).mono ?_;rw[u.o];rintro e X ⟨rfl,C⟩;exact⟨rfl,a.trans (C.mono a.size)⟩
  refine mD (.string s) ?_;refine mD (.string size) ?_;refine xO (.tuple #[.string O,V]) (λW a=> ?_) ?_
  .refine cZ (f:=139) (args:=(#[.agg (ai .u8 c),.agg (ai .u8 j),.string s,.string size])) fN ?_;refine(Is c j s size R.o d.o.1 S.o d.o.2 af af l m W (cT L.o a) (cT M.o a) ((a.cell (p:=⟨_,0,none⟩) y.o).trans A.o) ((a.cell (p:=⟨_,0,none⟩) z.o).trans B.o)).mono ?_;rw[<-N.o,<-P.o];rintro e X ⟨rfl,C⟩;exact⟨rfl,a.trans (C.mono a.size)⟩
  refine mD (.string O) ?_;refine mD (V) ?_;refine mD (.string O) ?_;refine mD (V) ?_;refine q5 ?_;intro Z k;have D:=aa k;clear k
  go_wp2_with fail
  go_ret2
  exact⟨rfl,D.o⟩
theorem TP(g:Nat)(b:Bool)(w:ay)(h:w.cell? ⟨g,pr.size+1,none⟩=some (.bool b)):
 Calls prog 112 #[.pointer (some ⟨g,pr.size,none⟩)] w λe a=>e= .returned (.int .i64 ((m8 b:Nat):Int))/\a=w:=by
 have c:(if b then(0:Int)else 4)=((m8 b:Nat):Int):=by cases b<;>rfl
 rw[<-c];exact yG g b w h
end
end Go.Proofs.P.Off
