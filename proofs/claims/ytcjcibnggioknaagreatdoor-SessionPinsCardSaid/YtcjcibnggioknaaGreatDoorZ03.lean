/- Lemmas on which SessionPins rests. -/
import Derived.BigRegion
import Derived.Laws.BitsAllLaws
import Derived.Laws.Externs
import Derived.RegionTactic
import Derived.Shelf.Spec.BitsCarry
import Derived.StillTailTactics
import Derived.Test.YtcjcibnggioknaaGreatDoorZ01
set_option maxRecDepth 100000
set_option maxHeartbeats 40000000
set_option linter.unusedVariables false
open Go.RowKit Go.Spk
open Go.Proofs.Tryz
namespace Go.Proofs.P
def aS(x y c:Nat):Nat:=(x+y+c) %18446744073709551616
def aC(x y c:Nat):Nat:=(x+y+c)/18446744073709551616
def sS(x y b:Nat):Nat:=(x+18446744073709551616 -y -b) %18446744073709551616
def sC(x y b:Nat):Nat:=if x<y+b then 1 else 0
def Dy(x y:Nat):Nat:=x*y/18446744073709551616
def BU(x y:Nat):Nat:=x*y %18446744073709551616
def Wd(n:Nat):Prop:=n<18446744073709551616
theorem Py(x y c:Nat):Wd (aS x y c):=by unfold Wd aS;omega
theorem Ro(x y:Nat):Wd (BU x y):=by unfold Wd BU;omega
theorem LQ(x y c:Nat)(a:Wd x)(b:Wd y)(d:c<=1):aC x y c<=1:=by unfold Wd aC at*;omega
theorem XN(x y c:Nat):sC x y c<=1:=by unfold sC;split<;>omega
def w0(n:Nat):Nat:=n %18446744073709551616
def w1(n:Nat):Nat:=n/18446744073709551616 %18446744073709551616
def w2(n:Nat):Nat:=n/18446744073709551616/18446744073709551616 %18446744073709551616
theorem XR(n:Nat):Wd (w0 n):=by unfold Wd w0;omega
theorem XS(n:Nat):Wd (w1 n):=by unfold Wd w1;omega
theorem XT(n:Nat):Wd (w2 n):=by unfold Wd w2;omega
def tj(a b c:Nat):Nat:=a+18446744073709551616*(b+18446744073709551616*c)
theorem Zg(a b c:Nat)(d:Wd a):w0 (tj a b c)=a:=by unfold Wd w0 tj at*;omega
theorem Zh(a b c:Nat)(d:Wd a)(e:Wd b):w1 (tj a b c)=b:=by unfold Wd w1 tj at*;omega
theorem Zi(a b c:Nat)(d:Wd a)(e:Wd b)(f:Wd c):w2 (tj a b c)=c:=by unfold Wd w2 tj at*;omega
theorem XZ(A b c a:Nat):aS (w0 A) b 0=w0 (A+tj b c a):=by unfold aS w0 tj;omega
theorem X0(A b c a:Nat):aS (w1 A) c (aC (w0 A) b 0)=w1 (A+tj b c a):=by unfold aS aC w0 w1 tj;omega
theorem X2(A b c a:Nat):(w2 A+(a+aC (w1 A) c (aC (w0 A) b 0))) %18446744073709551616=w2 (A+tj b c a):=by
 unfold aC w0 w1 w2 tj;omega
theorem RH(A:Nat)(h:A/18446744073709551616/18446744073709551616<18446744073709551616):tj (w0 A) (w1 A) (w2 A)=A:=by
 unfold tj w0 w1 w2;omega
theorem Vt(A:Nat)(b:A/18446744073709551616/18446744073709551616<18446744073709551616):
 sC (w2 A) 3 (sC (w1 A) 18446744073709551615 (sC (w0 A) 18446744073709551611 0))=if PP<=A then 0 else 1:=by
 have a:PP=1361129467683753853853498429727072845819:=by decide+kernel
 rw[a];unfold sC w0 w1 w2
 split<;>split<;>split<;>split<;>omega
theorem Vu(A:Nat)(h:PP<=A):sS (w0 A) 18446744073709551611 0=w0 (A -PP):=by
 have a:PP=1361129467683753853853498429727072845819:=by decide+kernel
 rw[a]at h⊢;unfold sS w0;omega
theorem Vv(A:Nat)(h:PP<=A):sS (w1 A) 18446744073709551615 (sC (w0 A) 18446744073709551611 0)=w1 (A -PP):=by
 have a:PP=1361129467683753853853498429727072845819:=by decide+kernel
 rw[a]at h⊢;unfold sS sC w0 w1
 split<;>omega
theorem Vw(A:Nat)(h:PP<=A):sS (w2 A) 3 (sC (w1 A) 18446744073709551615 (sC (w0 A) 18446744073709551611 0))=w2 (A -PP):=by
 have a:PP=1361129467683753853853498429727072845819:=by decide+kernel
 rw[a]at h⊢;unfold sS sC w0 w1 w2
 split<;>split<;>omega
theorem MT(x y:Nat):aS (x %18446744073709551616) (y %18446744073709551616) 0=(x+y) %18446744073709551616:=by unfold aS;omega
theorem MS(x y:Nat)(h:(x+y)/18446744073709551616<18446744073709551616):
 aS (x/18446744073709551616) (y/18446744073709551616) (aC (x %18446744073709551616) (y %18446744073709551616) 0)=(x+y)/18446744073709551616:=by unfold aS aC;omega
def Z5(a b:Nat):Nat:=aS (b %18446744073709551616) (a/18446744073709551616) 0
def Xq(a b:Nat):Nat:=aC (b %18446744073709551616) (a/18446744073709551616) 0
def Z6(b a c:Nat):Nat:=aS (c %18446744073709551616) (a/18446744073709551616) (Xq b a)
def Xr(b a c:Nat):Nat:=aC (c %18446744073709551616) (a/18446744073709551616) (Xq b a)
def Z7(b c a d:Nat):Nat:=aS (d %18446744073709551616) (a/18446744073709551616) (Xr b c a)
theorem O7(a b c d V:Nat)(f:d<18446744073709551616)(g:V=a+18446744073709551616*(b+18446744073709551616*(c+18446744073709551616*d)))
 (e:V/18446744073709551616/18446744073709551616/18446744073709551616<18446744073709551616):
 a %18446744073709551616+18446744073709551616*(Z5 a b+18446744073709551616*(Z6 a b c+18446744073709551616*Z7 a b c d))=V:=by
 unfold Z5 Z6 Z7 Xr Xq aS aC;omega
theorem RZ:zq=4*18446744073709551616*18446744073709551616:=by decide+kernel
theorem O6(c d a b V:Nat)(e:Wd c)(h1:Wd d)(f:Wd a)(g:c+18446744073709551616*(d+18446744073709551616*(a+18446744073709551616*b))=V):
 tj c d (a %4)+tj (a -a %4) b 0+tj (a/4+b %4*4611686018427387904) (b/4) 0=Bs V:=by
 unfold Bs tj Wd at*;rw[RZ];omega
theorem aau(a b c:Nat)(d:a/18446744073709551616<18446744073709551616)(h1:b/18446744073709551616<18446744073709551616):Xq a b<=1/\Xr a b c<=1:=by
 unfold Xr Xq aC;omega
theorem Km(a0 a1 a2 r0 r1:Nat):tj a0 a1 a2*(r0+18446744073709551616*r1)=
 a0*r0+18446744073709551616*((a1*r0+a0*r1)+18446744073709551616*((a2*r0+a1*r1)+18446744073709551616*(a2*r1))):=by
 unfold tj;simp only[Nat.mul_add,Nat.add_mul,Nat.mul_assoc,Nat.mul_left_comm _ 18446744073709551616];omega
theorem Kl(a0 a1 a2 r0 r1:Nat)(a:Wd a0)(h1:Wd a1)(b:a2<8)(k0:r0<1152921504606846976)(k1:r1<1152921504606846976):
 a0*r0/18446744073709551616<18446744073709551616/\(a1*r0+a0*r1)/18446744073709551616<18446744073709551616/\(a2*r0+a1*r1)/18446744073709551616<18446744073709551616/\a2*r1<18446744073709551616/\
 (a0*r0+18446744073709551616*((a1*r0+a0*r1)+18446744073709551616*((a2*r0+a1*r1)+18446744073709551616*(a2*r1))))/18446744073709551616/18446744073709551616/18446744073709551616<18446744073709551616:=by
 unfold Wd at*;have c:a0*r0<=18446744073709551615*1152921504606846975:=fT af af;have d:a1*r0<=18446744073709551615*1152921504606846975:=fT af af;have e:a0*r1<=18446744073709551615*1152921504606846975:=fT af af;have f:a2*r0<=7*1152921504606846975:=fT af af;have g:a1*r1<=18446744073709551615*1152921504606846975:=fT af af;have h:a2*r1<=7*1152921504606846975:=fT af af;generalize a0*r0=i at*;generalize a1*r0=j at*;generalize a0*r1=k at*;generalize a2*r0=l at*;generalize a1*r1=m at*;generalize a2*r1=n at*;omega
theorem Tj(x:Nat)(h:Wd x):bits .and .u64 (x:Int) 3=((x %4:Nat):Int):=by
 have:=lz x 3 h an;rw[nat_mask2]at this;exact this
theorem Jr(x:Nat)(h:Wd x):x&&&(18446744073709551615 -3)=x -x %4:=by
 unfold Wd at h;apply Nat.eq_of_testBit_eq;intro i;rw[Nat.testBit_and];have e:x -x %4=2^2*(x/4):=af;rw[e,Nat.testBit_two_pow_mul];have c:18446744073709551615 -3=2^2*(2^62 -1):=by decide+kernel
 rw[c,Nat.testBit_two_pow_mul,Nat.testBit_two_pow_sub_one]
 by_cases b:2<=i
 .have d:(x/4).testBit (i -2)=x.testBit i:=by
   rw[show(4:Nat)=2^2 from rfl,Nat.testBit_div_two_pow];congr 1;omega
  rw[d]
  by_cases a:i -2<62
  .simp[b,a]
  .have:x.testBit i=false:=Nat.testBit_lt_two_pow (aL h (by
    have:2^64<=2^i:=es an af;simpa using this))
   simp[this]
 .simp[b]
theorem I1(x:Nat)(h:Wd x):bits .andNot .u64 (x:Int) 3=((x -x %4:Nat):Int):=by
 have:=u64_andNot_nat x 3 h an;rw[Jr x h]at this;exact this
theorem Tk(x y:Nat)(a:x<4611686018427387904)(b:y<4):bits .or .u64 (x:Int) ((y*4611686018427387904:Nat):Int)=((x+y*4611686018427387904:Nat):Int):=by
 rw[u64_or_nat _ _ af af,Nat.or_comm,nat_join 62 _ _ af af,Nat.add_comm]
theorem DN(a b:aR):nb (a++b)=nb a+256^a.length*nb b:=by
 induction a with
 |nil=>simp[nb]
 |cons x a c=>
  rw[List.cons_append,nb,c,nb,fw,Int.pow_succ];rw[Int.mul_add,<-Int.add_assoc,Int.mul_comm (256^a.length) 256,Int.mul_assoc]
theorem RD(n:Nat):nb (List.replicate n 0)=0:=by
 induction n with
 |zero=>rfl
 |succ n a=>rw[List.replicate_succ,nb,a];rfl
theorem RA(a b:aR)(h:a.length=8):nb (a++b)=nb a+18446744073709551616*nb b:=by
 rw[DN,h]
 rfl
def nW(ws:List Int):Nat:=(nb ws).toNat
theorem Fa(ws:aR)(h:jr ws):(nW ws:Int)=nb ws:=by
 have:=(Rz ws (cY h)).1;unfold nW;omega
theorem y5(ws:aR)(h:jr ws)(hl:ws.length<=8):Wd (nW ws):=by
 have a:=Rz ws (cY h);have:256^ws.length<=256^8:=es an hl;have b:((256^ws.length:Nat):Int)<=((256^8:Nat):Int):=by exact_mod_cast this
 have c:((256^ws.length:Nat):Int)=(256:Int)^ws.length:=bj;unfold nW Wd;omega
theorem Ak{a b}(c:jr a)(d:jr b):jr (a++b):=cm λx e=>by
 rcases bT.1 e with h|h
 .exact cY c x h
 .exact cY d x h
theorem oP{a}(b:jr a)(n:Nat):jr (a.take n):=cm λx c=>cY b x (dW c)
theorem pW{a}(b:jr a)(n:Nat):jr (a.drop n):=cm λx c=>cY b x (ie c)
theorem Ko(a b:aR)(c:jr a)(d:jr b)(h:a.length=8):nW (a++b)=nW a+18446744073709551616*nW b:=by
 have e:=Fa a c;have f:=Fa b d;have g:=Fa _ (Ak c d);rw[RA a b h,<-e,<-f]at g;omega
theorem RK:jr [1]:=cm an
theorem KV(ws:aR)(k:Nat)(c:jr ws)(h:16*k+16<=ws.length):
 tj (nW ((ws.drop (16*k)).take 8)) (nW (((ws.drop (16*k)).drop 8).take 8)) 1=(nb (vh ws k)).toNat:=by
 generalize a:(ws.drop (16*k))=xs;have d:16<=xs.length:=by rw[<-a,bK];omega
 have b:jr xs:=by rw[<-a];exact pW c _
 have e:vh ws k=xs.take 8++((xs.drop 8).take 8++ [1]):=by
  unfold vh;rw[a,<-bf];congr 1;rw[show 16=8+8 from rfl,List.take_add]
 show _=nW (vh ws k);rw[e,Ko _ _ (oP b 8) (Ak (oP (pW b 8) 8) RK) (by rw[aO];omega),Ko _ _ (oP (pW b 8) 8) RK (by rw[aO,bK];omega)];have:nW [1]=1:=an;rw[this];unfold tj;omega
theorem DV(a:aR)(b:jr a)(hl:a.length=16)(n:Nat)(ps:aR)(h:a=ps++List.replicate n 0):
 tj (nW (a.take 8)) (nW (a.drop 8)) 0=(nb ps).toNat:=by
 have e:nW a=nW ps:=by
  unfold nW;rw[h,DN,RD,Int.mul_zero,Int.add_zero]
 have d:a=a.take 8++a.drop 8:=(cR 8 a).symm;have c:=Ko (a.take 8) (a.drop 8) (oP b 8) (pW b 8) (by rw[aO,hl];rfl);rw[<-d,e]at c;show _=nW ps;rw[c];unfold tj;omega
theorem gW(b m x y:Nat)(c:b<256)(hm:m<256):(b+256*x)&&&(m+256*y)=(b&&&m)+256*(x&&&y):=by
 apply Nat.eq_of_testBit_eq;intro i;have a:b&&&m<2^8:=gX Nat.and_le_left (ek c);rw[Nat.testBit_and,show b+256*x=2^8*x+b by omega,show m+256*y=2^8*y+m by omega,show(b&&&m)+256*(x&&&y)=2^8*(x&&&y)+(b&&&m) by omega];rw[Nat.testBit_two_pow_mul_add _ (ek c),Nat.testBit_two_pow_mul_add _ (ek hm),Nat.testBit_two_pow_mul_add _ a]
 split
 .rw[Nat.testBit_and]
 .rw[Nat.testBit_and]
theorem sf(b:Nat)(h:b<256):b&&&255=b:=by rw[nat_mask8];omega
theorem Jq(b:Nat)(h:b<256):b&&&252=b/4*4:=by
 revert b;decide+kernel
def Y7(ws:List Int):List Int:= [ix ws 0,ix ws 1,ix ws 2,ix ws 3 %16,ix ws 4/4*4,ix ws 5,ix ws 6,ix ws 7 %16]
def YM(ws:List Int):List Int:= [ix ws 0/4*4,ix ws 1,ix ws 2,ix ws 3 %16,ix ws 4/4*4,ix ws 5,ix ws 6,ix ws 7 %16]
theorem eight(ws:aR)(h:ws.length=8):ws= [ix ws 0,ix ws 1,ix ws 2,ix ws 3,ix ws 4,ix ws 5,ix ws 6,ix ws 7]:=by
 refine sv (by rw[h];rfl) λi a=> ?_;rw[h]at a;have:i=0\/i=1\/i=2\/i=3\/i=4\/i=5\/i=6\/i=7:=af;rcases this with rfl|rfl|rfl|rfl|rfl|rfl|rfl|rfl<;>rfl
theorem wP(a b c d e f g h:Nat):nW [(a:Int),(b:Int),(c:Int),(d:Int),(e:Int),(f:Int),(g:Int),(h:Int)]=
 a+256*(b+256*(c+256*(d+256*(e+256*(f+256*(g+256*(h+256*0))))))):=by
 unfold nW;simp only[nb];omega
theorem Qg(ws:aR)(a:jr ws)(h:ws.length=8):nW ws&&&1152921487695413247=nW (Y7 ws):=by
 have a0:=a 0;have a1:=a 1;have a2:=a 2;have e:=a 3;have f:=a 4;have g:=a 5;have i:=a 6;have j:=a 7
 conv=>lhs;rw[eight ws h]
 unfold Y7;generalize ix ws 0=c0 at*;generalize ix ws 1=c1 at*;generalize ix ws 2=c2 at*;generalize ix ws 3=c3 at*;generalize ix ws 4=c4 at*;generalize ix ws 5=c5 at*;generalize ix ws 6=c6 at*;generalize ix ws 7=k at*;obtain⟨l,rfl⟩:=au a0.1;obtain⟨m,rfl⟩:=au a1.1;obtain⟨n,rfl⟩:=au a2.1;obtain⟨b,rfl⟩:=au e.1;obtain⟨c,rfl⟩:=au f.1;obtain⟨o,rfl⟩:=au g.1;obtain⟨p,rfl⟩:=au i.1;obtain⟨d,rfl⟩:=au j.1;rw[show(b:Int) %16=((b %16:Nat):Int) by omega,show(c:Int)/4*4=((c/4*4:Nat):Int) by omega,show(d:Int) %16=((d %16:Nat):Int) by omega];rw[wP,wP,show(1152921487695413247:Nat)=255+256*(255+256*(255+256*(15+256*(252+256*(255+256*(255+256*(15+256*0)))))))from rfl];rw[gW _ _ _ _ af an,gW _ _ _ _ af an,gW _ _ _ _ af an,gW _ _ _ _ af an,gW _ _ _ _ af an,gW _ _ _ _ af an,gW _ _ _ _ af an,gW _ _ _ _ af an];rw[sf _ af,sf _ af,sf _ af,sf _ af,sf _ af,nat_mask4,nat_mask4,Jq _ af,Nat.and_zero]
theorem Qf(ws:aR)(a:jr ws)(h:ws.length=8):nW ws&&&1152921487695413244=nW (YM ws):=by
 have a0:=a 0;have a1:=a 1;have a2:=a 2;have f:=a 3;have g:=a 4;have i:=a 5;have j:=a 6;have k:=a 7
 conv=>lhs;rw[eight ws h]
 unfold YM;generalize ix ws 0=c0 at*;generalize ix ws 1=c1 at*;generalize ix ws 2=c2 at*;generalize ix ws 3=c3 at*;generalize ix ws 4=c4 at*;generalize ix ws 5=c5 at*;generalize ix ws 6=c6 at*;generalize ix ws 7=l at*;obtain⟨b,rfl⟩:=au a0.1;obtain⟨m,rfl⟩:=au a1.1;obtain⟨n,rfl⟩:=au a2.1;obtain⟨c,rfl⟩:=au f.1;obtain⟨d,rfl⟩:=au g.1;obtain⟨o,rfl⟩:=au i.1;obtain⟨p,rfl⟩:=au j.1;obtain⟨e,rfl⟩:=au k.1;rw[show(b:Int)/4*4=((b/4*4:Nat):Int) by omega,show(c:Int) %16=((c %16:Nat):Int) by omega,show(d:Int)/4*4=((d/4*4:Nat):Int) by omega,show(e:Int) %16=((e %16:Nat):Int) by omega];rw[wP,wP,show(1152921487695413244:Nat)=252+256*(255+256*(255+256*(15+256*(252+256*(255+256*(255+256*(15+256*0)))))))from rfl];rw[gW _ _ _ _ af an,gW _ _ _ _ af an,gW _ _ _ _ af an,gW _ _ _ _ af an,gW _ _ _ _ af an,gW _ _ _ _ af an,gW _ _ _ _ af an,gW _ _ _ _ af an];rw[sf _ af,sf _ af,sf _ af,sf _ af,nat_mask4,nat_mask4,Jq _ af,Jq _ af,Nat.and_zero]
theorem Y8(ws:aR)(a:jr ws):nW (Y7 ws)<1152921504606846976:=by
 have a0:=a 0;have a1:=a 1;have a2:=a 2;have b:=a 3;have c:=a 4;have d:=a 5;have e:=a 6;have f:=a 7;unfold nW Y7;simp only[nb];omega
theorem YN(ws:aR)(a:jr ws):nW (YM ws)<1152921504606846976:=by
 have a0:=a 0;have a1:=a 1;have a2:=a 2;have b:=a 3;have c:=a 4;have d:=a 5;have e:=a 6;have f:=a 7;unfold nW YM;simp only[nb];omega
theorem Wt(ws:aR)(h:ws.length=16):ws= [ix ws 0,ix ws 1,ix ws 2,ix ws 3,ix ws 4,ix ws 5,ix ws 6,ix ws 7,ix ws 8,ix ws 9,ix ws 10,ix ws 11,ix ws 12,ix ws 13,ix ws 14,ix ws 15]:=by
 refine sv (by rw[h];rfl) λi a=> ?_;rw[h]at a;have:i=0\/i=1\/i=2\/i=3\/i=4\/i=5\/i=6\/i=7\/i=8\/i=9\/i=10\/i=11\/i=12\/i=13\/i=14\/i=15:=af;rcases this with rfl|rfl|rfl|rfl|rfl|rfl|rfl|rfl|rfl|rfl|rfl|rfl|rfl|rfl|rfl|rfl<;>rfl
theorem Gq(b:aR)(k:jr b)(hl:b.length=32):q6 b=nW (Y7 (b.take 8))+18446744073709551616*nW (YM ((b.drop 8).take 8)):=by
 have c:(b.take 16).length=16:=by rw[aO,hl];rfl
 have e:=Wt _ c;have l:=oP k 16;have m:b.take 8=(b.take 16).take 8:=by rw[List.take_take];rfl
 have n:(b.drop 8).take 8=(b.take 16).drop 8:=by rw[List.drop_take]
 unfold q6 Qe;rw[m,n];generalize b.take 16=a at*;rw[e];have u:=l;generalize ix a 0=c0 at*;generalize ix a 1=c1 at*;generalize ix a 2=c2 at*;generalize ix a 3=c3 at*;generalize ix a 4=c4 at*;generalize ix a 5=c5 at*;generalize ix a 6=c6 at*;generalize ix a 7=C at*;generalize ix a 8=D at*;generalize ix a 9=E at*;generalize ix a 10=o at*;generalize ix a 11=p at*;generalize ix a 12=q at*;generalize ix a 13=r at*;generalize ix a 14=s at*;generalize ix a 15=t at*;rw[e]at u;have a0:=u 0;have a1:=u 1;have a2:=u 2;have v:=u 3;have w:=u 4;have x:=u 5;have y:=u 6;have z:=u 7;have A:=u 8;have B:=u 9;have d:=u 10;have f:=u 11;have g:=u 12;have h:=u 13;have i:=u 14;have j:=u 15;simp only[ix,List.getD_eq_getElem?_getD,List.getElem?_cons_zero,List.getElem?_cons_succ,Option.getD_some]at a0 a1 a2 v w x y z A B d f g h i j;simp only[Lo,qsA,qsB,ix,List.getD_eq_getElem?_getD,List.getElem?_cons_zero,List.getElem?_cons_succ,Option.getD_some,List.set_cons_zero,List.set_cons_succ,Y7,YM,nW,nb,List.take_succ_cons,List.take_zero,List.drop_succ_cons,List.drop_zero];omega
def BB:Nat:=zq+zq/4
theorem Jv:BB=1701411834604692317316873037158841057280:=by decide+kernel
theorem RY:zq=1361129467683753853853498429727072845824:=by decide+kernel
theorem Zx:PP=1361129467683753853853498429727072845819:=by decide+kernel
theorem Sy(A N R:Nat)(a:A<BB)(b:N<680564733841876926926749214863536422912)(c:R<21267647932558653966460912964485513216):
 (A+N)/18446744073709551616/18446744073709551616<8/\Bs ((A+N)*R)<BB:=by
 rw[Jv]at*;refine⟨af,?_⟩;unfold Bs;rw[RY];have h:(A+N)*R<=2722258935367507707706996859454145691647*21267647932558653966460912964485513215:=fT af af;generalize(A+N)*R=v at*;omega
theorem OK(A N R:Nat)(ws:aR)(k:Nat)(h:A %PP=Ao R ws k)(a:N=(nb (vh ws k)).toNat):Bs ((A+N)*R) %PP=Ao R ws (k+1):=by
 rw[Sq,Ao,<-h,<-a];simp[Nat.mul_mod,Nat.add_mod]
theorem Rl(A:Nat)(h:A<BB):(if PP<=A then A -PP else A)=A %PP:=by
 rw[Jv]at h;rw[Zx]
 split<;>omega
theorem Pm(A:Nat)(h:A<BB):A/18446744073709551616/18446744073709551616<18446744073709551616:=by rw[Jv]at h;omega
theorem run_add64(x y c:Nat)(a:c<=1)(w:ay):
 (callFunc 53 #[.int .u64 x,.int .u64 y,.int .u64 c]).run prog w= .ok (.value (.tuple #[.int .u64 (aS x y c:Nat),.int .u64 (aC x y c:Nat)])) w:=by
 rw[bJ func53 al al al (e:=add64Entry) al,Go.run_add64 x y c af af af af];simp only[Result.andThen,aS,aC];congr 5<;>omega
theorem run_sub64(x y b:Nat)(a:b<=1)(w:ay):
 (callFunc 239 #[.int .u64 x,.int .u64 y,.int .u64 b]).run prog w= .ok (.value (.tuple #[.int .u64 (sS x y b:Nat),.int .u64 (sC x y b:Nat)])) w:=by
 rw[bJ func239 al al al (e:=sub64Entry) al,Go.Proofs.run_sub64 x y b a]
 rfl
theorem zk(x b:Int)(a:0<=x)(h1:x<72057594037927936)(c:0<=b)(d:b<=255):bits .or .u64 (x*256) b=b+256*x:=by
 obtain⟨n,rfl⟩:=au a;obtain⟨m,rfl⟩:=au c;rw[show(n:Int)*256=((n*256:Nat):Int) by omega,u64_or_nat _ _ af af,nat_join 8 _ _ af af];omega
theorem VG(ws:aR)(k:Nat)(h:k<ws.length):nb (ws.drop k)=ix ws k+256*nb (ws.drop (k+1)):=by
 rw[gw h,nb];simp[ix,List.getD,h]
theorem RC(ws:aR)(k:Nat)(h:jr ws)(hl:ws.length<=8)(d:0<k):0<=nb (ws.drop k)/\nb (ws.drop k)<72057594037927936:=by
 have a:=Rz (ws.drop k) (λb c=>cY h b (ie c));refine⟨a.1,Int.lt_of_lt_of_le a.2 ?_⟩;have:256^(ws.drop k).length<=256^7:=es an (by rw[bK];omega);have e:((256^(ws.drop k).length:Nat):Int)<=((256^7:Nat):Int):=by exact_mod_cast this
 have f:((256^(ws.drop k).length:Nat):Int)=(256:Int)^(ws.drop k).length:=bj;omega
theorem Om(s:bB)(g:s.size<=8)(w:ay):
 Calls prog 223 #[.string s] w λe j=>e= .returned (.int .u64 (nb (bI s)))/\w=j:=by
 have p:∀(n:Nat) (h:n<s.size),((s[n]'h).toNat:Int)=ix (bI s) n:=λn h=>(AV s n h).symm
 go_enter func223,ntmps223
 go_wp2_with fail
 go_loop [3,4] (λx i=> ∃k:Nat,k<=s.size/\i= .int .i64 ((k:Int) -1)/\x= .int .u64 (nb ((bI s).drop k))) (λ_ i=>(intOf i+1).toNat)
 case atStart=>exact⟨s.size,af,rfl,by rw[fY (by rw[aj];exact ak _)];rfl⟩
 case round=>
  obtain⟨k,q,rfl,rfl⟩:=hrel
  by_cases c:k=0
  .subst c;rw[nT]
   go_wp2_with fail
   go_ret
   exact⟨rfl,rfl⟩
  .obtain⟨m,rfl⟩:∃m,k=m+1:=⟨k -1,af⟩;have r:((m+1:Nat):Int) -1=m:=af;have t:(m:Int)<s.size:=af;have l:=c8 s m;obtain⟨u0,u1⟩:=l;obtain⟨d,f⟩:=RC (bI s) (m+1) (c8 s) (by rw[aj];exact g) af;have b:=VG (bI s) m (by rw[aj];omega);obtain⟨v,a⟩:=aP (nb ((bI s).drop (m+1)));rw[<-a]at d f b⊢;have o:=zk v (ix (bI s) m) d f u0 u1;rw[<-b]at o;have u:=aa b;clear a b
   go_wp2_with fail
   go_round
   case rel=>exact⟨m,af,rfl,rfl⟩
   case measure=>simp[intOf]
def ki(a b:Nat):Value:= .agg #[.int .u64 a,.int .u64 b]
theorem mP(x y:Nat)(a:Wd x)(b:Wd y)(w:ay):
 Calls prog 237 #[.int .u64 x,.int .u64 y] w λe c=>e= .returned (ki (BU x y) (Dy x y))/\Below w.heap.size w c:=by
 have d:=aa a;have f:=aa b;clear a b
 go_enter func237,ntmps237
 go_wp2_with fail
 refine(bits_Mul64 x y d.o f.o _).mono ?_;rw[show x*y/18446744073709551616=Dy x y from rfl,show x*y %18446744073709551616=BU x y from rfl];rintro e w1 ⟨rfl,rfl⟩
 go_wp2_with fail
 exact cI (v:=ki (BU x y) (Dy x y)) (by simp[results,results237,go_sem,ki]) rfl ⟨rfl,(aw _ _).alloc (ak _) _⟩
theorem K6(a b c d:Nat)(f:Wd a)(g:Wd c)(w:ay):
 Calls prog 238 #[ki a b,ki c d] w λe h=>e= .returned (ki (aS a c 0) (aS b d (aC a c 0)))/\Below w.heap.size w h:=by
 have i:=λW=>run_add64 a c 0 an W;have j:=λW=>run_add64 b d (aC a c 0) (LQ _ _ _ f g an) W;rw[show((0:Nat):Int)=0 from rfl]at i;unfold ki
 go_enter func238,ntmps238
 go_wp2_with fail
 exact cI (v:=ki (aS a c 0) (aS b d (aC a c 0))) (by simp[results,results238,go_sem,ki]) rfl ⟨rfl,(((aw _ _).alloc (ak _) _).alloc bj _).alloc (by simp;omega) _⟩
def yA(A r0 r1:Nat):List Int:= [(w0 A:Int),(w1 A:Int),(w2 A:Int),(r0:Int),(r1:Int)]
def Bq(a0 a1 a2 r0 r1:Nat):List Int:= [(a0:Int),(a1:Int),(a2:Int),(r0:Int),(r1:Int)]
theorem zZ(A r0 r1:Nat):Bq (w0 A) (w1 A) (w2 A) r0 r1=yA A r0 r1:=rfl
section
variable {w W:World}{g:Nat}{t:TypeId}{a0 a1 a2 r0 r1:Nat}
theorem pQ(U:eU w W g t .u64 (Bq a0 a1 a2 r0 r1)):
 W.cell? ⟨g,0,none⟩=some (.int .u64 a0)/\W.cell? ⟨g,1,none⟩=some (.int .u64 a1)/\W.cell? ⟨g,2,none⟩=some (.int .u64 a2)/\W.cell? ⟨g,3,none⟩=some (.int .u64 r0)/\W.cell? ⟨g,4,none⟩=some (.int .u64 r1):=
 ⟨U.cell 0 (by simp[Bq]),U.cell 1 (by simp[Bq]),U.cell 2 (by simp[Bq]),U.cell 3 (by simp[Bq]),U.cell 4 (by simp[Bq])⟩
end
theorem qo(g:Nat)(t:fg)(A r0 r1 b c a:Nat)(j:Wd b)(k:Wd c)(l:a<=1)(w:ay)(hS:Whole w g t (ai .u64 (yA A r0 r1))):
 Calls prog 224 #[.pointer (some ⟨g,0,none⟩),.int .u64 b,.int .u64 c,.int .u64 a] w
  λe E=>e= .returned (.tuple #[])/\eU w E g t .u64 (yA (A+tj b c a) r0 r1):=by
 have x:=XZ A b c a;have y:=X0 A b c a;have z:=X2 A b c a;have B:=XR A;have C:=XS A;have F:=XT A;rw[<-zZ]at hS⊢;rw[<-x,<-y,<-z];generalize w0 A=a0 at*;generalize w1 A=a1 at*;generalize w2 A=a2 at*;clear x y z;have d:=LQ a0 b 0 B j an;have r:=LQ a1 c (aC a0 b 0) C k d;have D:=λW=>run_add64 a0 b 0 an W;have G:=λW=>run_add64 a1 c (aC a0 b 0) d W;rw[show((0:Nat):Int)=0 from rfl]at D;generalize aC a1 c (aC a0 b 0)=c2 at*;generalize aC a0 b 0=c1 at*;generalize aS a1 c c1=s1 at*;generalize aS a0 b 0=s0 at*;have s:=eU.start hS;obtain⟨k0,k1,m,n,o⟩:=pQ s;have H:=s.frozen 0;have f:IntKind.u64.wrap ((a:Int)+(c2:Int))=(a:Int)+c2:=by rw[bH];omega
 obtain⟨s2,h⟩:=aP ((a2+(a+c2)) %18446744073709551616);have i:IntKind.u64.wrap ((a2:Int)+((a:Int)+(c2:Int)))=(s2:Int):=by rw[bH,h];omega
 rw[<-h];have u:=aa f;have v:=aa i;clear h f i;clear d r B C F l j k
 go_enter func224,ntmps224
 go_wp2_with fail
 go_region
 go_wp2_with fail
 have p:eU w _ g t .u64 (Bq s0 a1 a2 r0 r1):=(s.set 0 s0).drew;generalize(w.setCell ⟨g,0,none⟩ (.int .u64 (s0:Nat))).drew=I at p⊢;clear k0 k1 m n o H D;obtain⟨k0,k1,m,n,o⟩:=pQ p;have J:=p.frozen 1
 go_region
 go_wp2_with fail
 have q:eU w _ g t .u64 (Bq s0 s1 a2 r0 r1):=(p.set 1 s1).drew;generalize(I.setCell ⟨g,1,none⟩ (.int .u64 (s1:Nat))).drew=K at q⊢;clear k0 k1 m n o J G;obtain⟨k0,k1,m,n,o⟩:=pQ q;have L:=q.frozen 2;have f:=u.o;have i:=v.o
 go_region
 go_wp2_with fail
 go_end0
 exact⟨rfl,(q.set 2 s2).drew⟩
theorem IL(g:Nat)(t:fg)(A r0 r1:Nat)(q:A/18446744073709551616/18446744073709551616<18446744073709551616)(w:ay)(hS:Whole w g t (ai .u64 (yA A r0 r1))):
 Calls prog 226 #[.pointer (some ⟨g,0,none⟩)] w
  λe r=>e= .returned (.tuple #[])/\eU w r g t .u64 (yA (if PP<=A then A -PP else A) r0 r1):=by
 have b:=eU.start hS;have a:=Vt A q;have l:=λW=>run_sub64 (w0 A) 18446744073709551611 0 an W;have m:=λW=>run_sub64 (w1 A) 18446744073709551615 (sC (w0 A) 18446744073709551611 0) (XN _ _ _) W;have i:=λW=>run_sub64 (w2 A) 3 (sC (w1 A) 18446744073709551615 (sC (w0 A) 18446744073709551611 0)) (XN _ _ _) W;rw[show((0:Nat):Int)=0 from rfl,show((18446744073709551611:Nat):Int)=18446744073709551611 from rfl]at l;rw[show((18446744073709551615:Nat):Int)=18446744073709551615 from rfl]at m;rw[show((3:Nat):Int)=3 from rfl]at i;have n:=Vu A;have o:=Vv A;have p:=Vw A;have j:=aa (And.intro n (And.intro o p));clear n o p;obtain⟨k0,k1,s,u,v⟩:=pQ (zZ A r0 r1▸b);have x:=b.frozen 0;have y:=b.frozen 1;have z:=b.frozen 2
 by_cases c:PP<=A
 .rw[aJ c]at a⊢;rw[a]at i;obtain⟨d,f,h⟩:=j.o;have d:=d c;have f:=f c;have h:=h c;rw[h]at i;rw[f]at m;rw[d]at l;have E:=aa (And.intro d (And.intro f h));clear d f h j a;generalize A -PP=k at*
  go_enter func226,ntmps226
  go_wp2_with fail
  go_end0
  exact⟨rfl,((b.set 0 (w0 k:Nat)).set 1 (w1 k:Nat)).set 2 (w2 k:Nat)⟩
 .rw[aq c]at a⊢;rw[a]at i;clear a j
  go_enter func226,ntmps226
  go_wp2_with fail
  go_end0
  exact⟨rfl,b⟩
theorem sK{w}{p}{a b:Nat}(h:Whole w p 343 #[.int .u64 a,.int .u64 b]):w.cell? ⟨p,0,none⟩=some (.int .u64 a)/\w.cell? ⟨p,1,none⟩=some (.int .u64 b):=⟨h.at_ 0,h.at_ 1⟩
theorem xy(a b:Nat):(#[Value.int .u64 a,Value.int .u64 b]:gJ).all (·.oneCell')=true:=by
 rw[mR];intro v c;simp at c;rcases c with rfl|rfl<;>rfl
theorem DW(a b c d:Nat)(g:Wd a)(i:Wd b)(j:Wd c)(k:Wd d)(h:(a*b+c*d)/18446744073709551616<18446744073709551616)(w:ay):
 Calls prog 238 #[ki (BU a b) (Dy a b),ki (BU c d) (Dy c d)] w λe f=>e= .returned (ki ((a*b+c*d) %18446744073709551616) ((a*b+c*d)/18446744073709551616))/\Below w.heap.size w f:=by
 have:=K6 (BU a b) (Dy a b) (BU c d) (Dy c d) (Ro _ _) (Ro _ _) w;unfold BU Dy at this;rw[MT,MS _ _ h]at this;exact this
theorem By(g:Nat)(t:fg)(A r0 r1:Nat)(hA:A/18446744073709551616/18446744073709551616<8)(h0:r0<1152921504606846976)(h1:r1<1152921504606846976)(w:ay)(hS:Whole w g t (ai .u64 (yA A r0 r1))):
 Calls prog 225 #[.pointer (some ⟨g,0,none⟩)] w
  λe w'=>e= .returned (.tuple #[])/\w.grownBy w' (some g)/\Whole w' g t (ai .u64 (yA (Bs (A*(r0+18446744073709551616*r1))) r0 r1)):=by
 have J:=XR A;have H:=XS A;have d2:=XT A;have eA:=RH A af;have e2:w2 A<8:=by unfold w2;omega
 rw[<-zZ]at hS;rw[<-eA];generalize w0 A=a0 at*;generalize w1 A=a1 at*;generalize w2 A=a2 at*;clear hA eA;have k0:Wd r0:=by unfold Wd;omega
 have k1:Wd r1:=by unfold Wd;omega
 obtain⟨b0,b1,b2,b3,b4⟩:=Kl a0 a1 a2 r0 r1 J H e2 h0 h1;rw[Km];have P1:=aa (DW a1 r0 a0 r1 H k0 J k1 b1);have P2:=aa (DW a2 r0 a1 r1 d2 k0 H k1 b2);have T0:=aa (mP a0 r0 J k0);have T1:=aa (mP a1 r0 H k0);have T2:=aa (mP a0 r1 J k1);have T3:=aa (mP a2 r0 d2 k0);have T4:=aa (mP a1 r1 H k1);have T5:=aa (mP a2 r1 d2 k1);generalize B:a0*r0=d at*;generalize aB:a1*r0+a0*r1=j at*;generalize aE:a2*r0+a1*r1=l at*;generalize C:a2*r1=r at*;generalize hV:d+18446744073709551616*(j+18446744073709551616*(l+18446744073709551616*r))=V at*;have y:=O7 d j l r V b3 hV.symm b4;obtain⟨K,L⟩:=aau d j l b0 b1;have A1:=λW=>run_add64 (j %18446744073709551616) (d/18446744073709551616) 0 an W;have A2:=λW=>run_add64 (l %18446744073709551616) (j/18446744073709551616) (Xq d j) K W;have A3:=λW=>run_add64 (r %18446744073709551616) (l/18446744073709551616) (Xr d j l) L W;rw[show((0:Nat):Int)=0 from rfl]at A1;have D:Wd (Z5 d j):=Py _ _ _;have E:Wd (Z6 d j l):=Py _ _ _;have M:Wd (Z7 d j l r):=Py _ _ _;have F:Wd (d %18446744073709551616):=by unfold Wd;omega
 change ∀W,Sem.run _ _ W= .ok (Next.value (.tuple #[.int .u64 (Z5 d j:Nat),.int .u64 (Xq d j:Nat)])) W at A1;change ∀W,Sem.run _ _ W= .ok (Next.value (.tuple #[.int .u64 (Z6 d j l:Nat),.int .u64 (Xr d j l:Nat)])) W at A2;obtain⟨c3,N⟩:=aP (aC (r %18446744073709551616) (l/18446744073709551616) (Xr d j l));rw[<-N]at A3;change ∀W,Sem.run _ _ W= .ok (Next.value (.tuple #[.int .u64 (Z7 d j l r:Nat),.int .u64 (c3:Nat)])) W at A3;have O:BU a0 r0=d %18446744073709551616:=by unfold BU;rw[B]
 have P:Dy a0 r0=d/18446744073709551616:=by unfold Dy;rw[B]
 have Q:BU a2 r1=r %18446744073709551616:=by unfold BU;rw[C]
 have R:Dy a2 r1=r/18446744073709551616:=by unfold Dy;rw[C]
 rw[O,P]at T0;rw[Q,R]at T5;clear O P Q R B aB aE C hV N b0 b1 b2 b3 b4 K L;have q:=λh=>O6 (d %18446744073709551616) (Z5 d j) (Z6 d j l) (Z7 d j l r) V F D E h;have q:=q y;clear y;generalize Z5 d j=S at*;generalize Z6 d j l=m at*;generalize Z7 d j l r=z at*;generalize Xq d j=c1 at*;generalize Xr d j l=c2 at*;generalize d %18446744073709551616=G at*;generalize d/18446744073709551616=U at*;generalize j %18446744073709551616=X at*;generalize j/18446744073709551616=Y at*;generalize l %18446744073709551616=Z at*;generalize l/18446744073709551616=ab at*;generalize r %18446744073709551616=ad at*;generalize r/18446744073709551616=aj at*;have HL:=aa q;have i:=aa (And.intro F (And.intro D (And.intro E M)));have aF:=aa A1;have aG:=aa A2;have aK:=aa A3;clear q F D E M A1 A2 A3 J H d2 e2 k0 k1 h0 h1
 have hc:∀W,Below w.heap.size w W->W.cell? ⟨g,0,none⟩=some (.int .u64 a0)/\W.cell? ⟨g,1,none⟩=some (.int .u64 a1)/\W.cell? ⟨g,2,none⟩=some (.int .u64 a2)/\W.cell? ⟨g,3,none⟩=some (.int .u64 r0)/\W.cell? ⟨g,4,none⟩=some (.int .u64 r1):=
  λW h=>pQ (eU.start (hS.below h hS.inside))
 have u:=aa hc;have HS:=aa hS;have b:=aa (aw w.heap.size w);clear hc hS
 go_enter func225,ntmps225
 go_wp2_with fail
 refine dQ 11 (Mk w 343) none al al (Mk.start _ _) ?_;refine pt (.pointer (some ⟨g,0,none⟩)) ?_;refine pt (.pointer (some ⟨g,0,none⟩)) ?_;refine pt (.pointer (some ⟨g,0,none⟩)) ?_;refine pt (.pointer (some ⟨g,0,none⟩)) ?_;refine rD (.int .u64 a0) (λs W a=> ?_) ?_
 .have a:=Mk.base a;refine aD ?_;have v:=(u.o W (b.o.trans (a.mono b.o.size))).1;go_simp
 refine pt (.pointer (some ⟨g,0,none⟩)) ?_;refine pt (.pointer (some ⟨g,0,none⟩)) ?_;refine pt (.pointer (some ⟨g,3,none⟩)) ?_;refine pt (.pointer (some ⟨g,3,none⟩)) ?_;refine rD (.int .u64 r0) (λs W a=> ?_) ?_
 .have a:=Mk.base a;refine aD ?_;have v:=(u.o W (b.o.trans (a.mono b.o.size))).2.2.2.1;go_simp
 refine rD (ki G U) (λs W a=> ?_) ?_
 .refine jX (f:=237) (args:=(#[.int .u64 a0,.int .u64 r0])) fN a ?_;have a:=Mk.base a;exact T0.o W
 refine ft ?_;refine tQ (.tmp 21) 2 #[.int .u64 0,.int .u64 0] #[.int .u64 G,.int .u64 U] al rfl (λW=>by go_simp) (λp=>by kernel_rfl) rfl rfl (λp=>by rfl) (λp=>by rfl) al rfl (xy _ _) (λp2=> ?_);intro W1 ⟨c,o,k⟩;have n:=aa k;have b:=aa (b.o.trans (c.mono b.o.size));clear k c o
 go_wp2_with fail
 refine dQ 23 (Mk W1 343) none al al (Mk.start _ _) ?_;refine pt (.pointer (some ⟨g,0,none⟩)) ?_;refine pt (.pointer (some ⟨g,0,none⟩)) ?_;refine pt (.pointer (some ⟨g,0,none⟩)) ?_;refine pt (.pointer (some ⟨g,1,none⟩)) ?_;refine rD (.int .u64 a1) (λs W a=> ?_) ?_
 .have a:=Mk.base a;refine aD ?_;have v:=(u.o W (b.o.trans (a.mono b.o.size))).2.1;go_simp
 refine pt (.pointer (some ⟨g,0,none⟩)) ?_;refine pt (.pointer (some ⟨g,0,none⟩)) ?_;refine pt (.pointer (some ⟨g,3,none⟩)) ?_;refine pt (.pointer (some ⟨g,3,none⟩)) ?_;refine rD (.int .u64 r0) (λs W a=> ?_) ?_
 .have a:=Mk.base a;refine aD ?_;have v:=(u.o W (b.o.trans (a.mono b.o.size))).2.2.2.1;go_simp
 refine rD (ki (BU a1 r0) (Dy a1 r0)) (λs W a=> ?_) ?_
 .refine jX (f:=237) (args:=(#[.int .u64 a1,.int .u64 r0])) fN a ?_;have a:=Mk.base a;exact T1.o W
 refine pt (.pointer (some ⟨g,0,none⟩)) ?_;refine pt (.pointer (some ⟨g,0,none⟩)) ?_;refine pt (.pointer (some ⟨g,0,none⟩)) ?_;refine pt (.pointer (some ⟨g,0,none⟩)) ?_;refine rD (.int .u64 a0) (λs W a=> ?_) ?_
 .have a:=Mk.base a;refine aD ?_;have v:=(u.o W (b.o.trans (a.mono b.o.size))).1;go_simp
 refine pt (.pointer (some ⟨g,0,none⟩)) ?_;refine pt (.pointer (some ⟨g,0,none⟩)) ?_;refine pt (.pointer (some ⟨g,3,none⟩)) ?_;refine pt (.pointer (some ⟨g,4,none⟩)) ?_;refine rD (.int .u64 r1) (λs W a=> ?_) ?_
 .have a:=Mk.base a;refine aD ?_;have v:=(u.o W (b.o.trans (a.mono b.o.size))).2.2.2.2;go_simp
 refine rD (ki (BU a0 r1) (Dy a0 r1)) (λs W a=> ?_) ?_
 .refine jX (f:=237) (args:=(#[.int .u64 a0,.int .u64 r1])) fN a ?_;have a:=Mk.base a;exact T2.o W
 refine rD (ki X Y) (λs W a=> ?_) ?_
 .refine jX (f:=238) (args:=(#[ki (BU a1 r0) (Dy a1 r0),ki (BU a0 r1) (Dy a0 r1)])) fN a ?_;have a:=Mk.base a;exact P1.o W
 refine ft ?_;refine tQ (.tmp 44) 3 #[.int .u64 0,.int .u64 0] #[.int .u64 X,.int .u64 Y] al rfl (λW=>by go_simp) (λp=>by kernel_rfl) rfl rfl (λp=>by rfl) (λp=>by rfl) al rfl (xy _ _) (λp3=> ?_);intro W2 ⟨c,o,k⟩;have x:=aa k;have n:=aa (n.o.below c n.o.inside);have b:=aa (b.o.trans (c.mono b.o.size));clear k c o
 go_wp2_with fail
 refine dQ 23 (Mk W2 343) none al al (Mk.start _ _) ?_;refine pt (.pointer (some ⟨g,0,none⟩)) ?_;refine pt (.pointer (some ⟨g,0,none⟩)) ?_;refine pt (.pointer (some ⟨g,0,none⟩)) ?_;refine pt (.pointer (some ⟨g,2,none⟩)) ?_;refine rD (.int .u64 a2) (λs W a=> ?_) ?_
 .have a:=Mk.base a;refine aD ?_;have v:=(u.o W (b.o.trans (a.mono b.o.size))).2.2.1;go_simp
 refine pt (.pointer (some ⟨g,0,none⟩)) ?_;refine pt (.pointer (some ⟨g,0,none⟩)) ?_;refine pt (.pointer (some ⟨g,3,none⟩)) ?_;refine pt (.pointer (some ⟨g,3,none⟩)) ?_;refine rD (.int .u64 r0) (λs W a=> ?_) ?_
 .have a:=Mk.base a;refine aD ?_;have v:=(u.o W (b.o.trans (a.mono b.o.size))).2.2.2.1;go_simp
 refine rD (ki (BU a2 r0) (Dy a2 r0)) (λs W a=> ?_) ?_
 .refine jX (f:=237) (args:=(#[.int .u64 a2,.int .u64 r0])) fN a ?_;have a:=Mk.base a;exact T3.o W
 refine pt (.pointer (some ⟨g,0,none⟩)) ?_;refine pt (.pointer (some ⟨g,0,none⟩)) ?_;refine pt (.pointer (some ⟨g,0,none⟩)) ?_;refine pt (.pointer (some ⟨g,1,none⟩)) ?_;refine rD (.int .u64 a1) (λs W a=> ?_) ?_
 .have a:=Mk.base a;refine aD ?_;have v:=(u.o W (b.o.trans (a.mono b.o.size))).2.1;go_simp
 refine pt (.pointer (some ⟨g,0,none⟩)) ?_;refine pt (.pointer (some ⟨g,0,none⟩)) ?_;refine pt (.pointer (some ⟨g,3,none⟩)) ?_;refine pt (.pointer (some ⟨g,4,none⟩)) ?_;refine rD (.int .u64 r1) (λs W a=> ?_) ?_
 .have a:=Mk.base a;refine aD ?_;have v:=(u.o W (b.o.trans (a.mono b.o.size))).2.2.2.2;go_simp
 refine rD (ki (BU a1 r1) (Dy a1 r1)) (λs W a=> ?_) ?_
 .refine jX (f:=237) (args:=(#[.int .u64 a1,.int .u64 r1])) fN a ?_;have a:=Mk.base a;exact T4.o W
 refine rD (ki Z ab) (λs W a=> ?_) ?_
 .refine jX (f:=238) (args:=(#[ki (BU a2 r0) (Dy a2 r0),ki (BU a1 r1) (Dy a1 r1)])) fN a ?_;have a:=Mk.base a;exact P2.o W
 refine ft ?_;refine tQ (.tmp 67) 4 #[.int .u64 0,.int .u64 0] #[.int .u64 Z,.int .u64 ab] al rfl (λW=>by go_simp) (λp=>by kernel_rfl) rfl rfl (λp=>by rfl) (λp=>by rfl) al rfl (xy _ _) (λp4=> ?_);intro W3 ⟨c,o,k⟩;have ao:=aa k;have x:=aa (x.o.below c x.o.inside);have n:=aa (n.o.below c n.o.inside);have b:=aa (b.o.trans (c.mono b.o.size));clear k c o
 go_wp2_with fail
 refine dQ 11 (Mk W3 343) none al al (Mk.start _ _) ?_;refine pt (.pointer (some ⟨g,0,none⟩)) ?_;refine pt (.pointer (some ⟨g,0,none⟩)) ?_;refine pt (.pointer (some ⟨g,0,none⟩)) ?_;refine pt (.pointer (some ⟨g,2,none⟩)) ?_;refine rD (.int .u64 a2) (λs W a=> ?_) ?_
 .have a:=Mk.base a;refine aD ?_;have v:=(u.o W (b.o.trans (a.mono b.o.size))).2.2.1;go_simp
 refine pt (.pointer (some ⟨g,0,none⟩)) ?_;refine pt (.pointer (some ⟨g,0,none⟩)) ?_;refine pt (.pointer (some ⟨g,3,none⟩)) ?_;refine pt (.pointer (some ⟨g,4,none⟩)) ?_;refine rD (.int .u64 r1) (λs W a=> ?_) ?_
 .have a:=Mk.base a;refine aD ?_;have v:=(u.o W (b.o.trans (a.mono b.o.size))).2.2.2.2;go_simp
 refine rD (ki ad aj) (λs W a=> ?_) ?_
 .refine jX (f:=237) (args:=(#[.int .u64 a2,.int .u64 r1])) fN a ?_;have a:=Mk.base a;exact T5.o W
 refine ft ?_;refine tQ (.tmp 78) 5 #[.int .u64 0,.int .u64 0] #[.int .u64 ad,.int .u64 aj] al rfl (λW=>by go_simp) (λp=>by kernel_rfl) rfl rfl (λp=>by rfl) (λp=>by rfl) al rfl (xy _ _) (λp5=> ?_);intro W4 ⟨c,o,k⟩;obtain⟨aR,aS⟩:=sK k;obtain⟨aU,aV⟩:=sK (ao.o.below c ao.o.inside);obtain⟨aX,aY⟩:=sK (x.o.below c x.o.inside);obtain⟨a3,a4⟩:=sK (n.o.below c n.o.inside);have b:=aa (b.o.trans (c.mono b.o.size));clear k c o;have I:=eU.start (HS.o.below b.o HS.o.inside);have f0:=I.frozen 0;have f1:=I.frozen 1;have f2:=I.frozen 2;obtain⟨k0,k1,k2,k3,k4⟩:=pQ I;have y1:=aF.o;have y2:=aG.o;have y3:=aK.o;have q3:=Tj m i.o.2.2.1;rw[show((m %4:Nat):Int)=(m:Int) %4 by omega]at q3;have qn:=I1 m i.o.2.2.1
 go_wp2_with fail
 have e5:Bq G S (m %4) r0 r1=yA (tj G S (m %4)) r0 r1:=by
  rw[<-zZ,Zg _ _ _ i.o.1,Zh _ _ _ i.o.1 i.o.2.1,Zi _ _ _ i.o.1 i.o.2.1 (by unfold Wd;omega)]
 have U5:eU W4 _ g t .u64 (Bq G S (m %4) r0 r1):=((I.set 0 (G:Nat)).set 1 (S:Nat)).set 2 ((m %4:Nat):Int);rw[show((m %4:Nat):Int)=(m:Int) %4 by omega,e5]at U5;clear e5 q3 qn y1 y2 y3 k0 k1 k2 k3 k4 f0 f1 f2 a3 a4 aX aY aU aV aR aS;generalize(((W4.setCell ⟨g,0,none⟩ (.int .u64 (G:Nat))).setCell ⟨g,1,none⟩ (.int .u64 (S:Nat))).setCell ⟨g,2,none⟩ (.int .u64 ((m:Int) %4)))=W5 at U5⊢;have av:=aa U5;clear U5 I;refine(qo g t _ r0 r1 (m -m %4) z 0 (by have:=i.o.2.2.1;unfold Wd at*;omega) i.o.2.2.2 an W5 av.o.et).mono ?_;rintro e W6 ⟨rfl,U6⟩;have ax:=aa U6;clear U6
 go_wp2_with fail
 have hb:bits .or .u64 ((m:Int)/4) (IntKind.u64.wrap ((z:Int)*4611686018427387904))=((m/4+z %4*4611686018427387904:Nat):Int):=by
  have:=i.o.2.2.1;have:=i.o.2.2.2;unfold Wd at*;rw[<-Tk (m/4) (z %4) af af];congr 1;rw[bH];omega
 rw[hb,show((z:Int)/4)=((z/4:Nat):Int) by omega];clear hb;refine(qo g t _ r0 r1 (m/4+z %4*4611686018427387904) (z/4) 0 (by have:=i.o.2.2.1;unfold Wd at*;omega) (by have:=i.o.2.2.2;unfold Wd at*;omega) an W6 ax.o.et).mono ?_;rw[HL.o];rintro e W7 ⟨rfl,U7⟩;have az:=aa U7;clear U7
 go_wp2_with fail
 go_end0
 exact⟨rfl,aZ (aZ (aZ (bR b.o (some g)) av.o.only) ax.o.only) az.o.only,az.o.et⟩
end Go.Proofs.P
