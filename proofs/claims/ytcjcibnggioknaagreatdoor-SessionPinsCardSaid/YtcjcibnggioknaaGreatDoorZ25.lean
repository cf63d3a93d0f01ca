/- Lemmas on which SessionPins rests. -/
import Derived.Test.YtcjcibnggioknaaGreatDoorZ19
set_option maxRecDepth 100000
set_option maxHeartbeats 40000000
set_option linter.unusedVariables false
open Go.RowKit Go.Spk
open Go.Proofs.Tryz
namespace Go.Proofs.P
def fM(o a:Bool)(k n:Nat)(id key:List Int):Array Value:= [[Value.bool o],[Value.bool a],[Value.int .i64 (k:Nat)],[Value.int .i64 (n:Nat)],id.map (Value.int .u8),key.map (Value.int .u8)].flatten.toArray
abbrev acp:List (List Value):= [[.bool false],[.bool false],[.int .i64 0],[.int .i64 0],(List.replicate 32 0).map (.int .u8),(List.replicate 32 0).map (.int .u8)]
section
variable {w:World}{g gh:Nat}{re e x:Value}{s:aX}{A:Option Addr}{WN C:Nat}{τ:TypeId}
theorem To(c:bC s)(h:cP w g gh (.slice A WN C) re e s)(o a:Bool)(f:(∃τ x,e= .iface τ x/\a=true/\o=false)\/e= .nilIface/\a=false/\(¬0<s.c7/\o=false\/0<s.c7/\x9 s= !o)):
 Calls prog 10 #[.pointer (some ⟨g,0,none⟩)] w λr i=>r= .returned (.agg (fM o a s.c7 WN s.id s.key))/\Below w.heap.size w i:=by
 have j:=c.id.1;have k:=c.key.1;have l:∀o a,(fM o a s.c7 WN s.id s.key).size=68:=λo a=>by simp[fM,j,k]
 have q:∀o a,(fM o a s.c7 WN s.id s.key).all (·.oneCell') 0 68=true:=λo a=>by have:=l o a;rw[<-this];simp[fM,Value.oneCell']
 rcases f with⟨τ,x,rfl,rfl,rfl⟩|⟨rfl,rfl,⟨m,rfl⟩|⟨m,t⟩⟩
 all_goals
  refine TC.enter func10 ntmps10 _ [] (h.hr c) ?_;refine T.one 0 (TO.J (z:=68) λb=> ?_);refine TC.rg [100000] ?_
  try refine T.one 14 (TO.qk (λW d=>(UV c (eF d)).mono λr u ⟨n,p⟩=>⟨n,p▸aw _ _⟩) ?_)
  refine T.bd 39 acp (v:= .agg (fM _ _ s.c7 WN s.id s.key)) ?_;refine TE.rc ?_;exact λW d=>⟨by simp[loc],d.below⟩
end
def wd(row:Array Value)(e f:Nat)(W:World):Prop:= ∃a b c d,row= #[zD a,zD b,zD c,zD d,zD d]/\(∀k,k=a\/k=b\/k=c\/k=d->e<=k/\k<f)/\Whole W a 9 #[.string Kf]/\Whole W b 9 #[.string mM]/\Whole W c 9 #[.string Jg]/\Whole W d 9 #[.string oW]
theorem wd.loc(row:gJ)(g i:Nat)(W j:ay)(h:wd row g i W)(f:∀k,g<=k/\k<i->j.heap[k]?=W.heap[k]?)(q:W.heap.size<=j.heap.size):wd row g i j:=by
 obtain⟨a,b,c,d,l,e,m,n,o,p⟩:=h;exact⟨a,b,c,d,l,e,(f a (e a (.inl rfl))).trans m,(f b (e b (.inr (.inl rfl)))).trans n,(f c (e c (.inr (.inr (.inl rfl))))).trans o,(f d (e d (.inr (.inr (.inr rfl))))).trans p⟩
theorem sb.of{row:gJ}{e:Nat}{W:ay}(h:sb e W row):wd row e W.heap.size W:=by
 obtain⟨a,b,c,d,l,⟨k1,m,n,o⟩,f,g,i,j⟩:=h;have:=f.inside;have:=g.inside;have:=i.inside;have:=j.inside;exact⟨a,b,c,d,l,λk p=>by omega,f,g,i,j⟩
theorem wd.at_{row:gJ}{f g:Nat}{W:ay}(h:wd row f g W):sb f W row:=by
 obtain⟨a,b,c,d,i,e,j⟩:=h;exact⟨a,b,c,d,i,⟨(e a bj).1,(e b bj).1,(e c bj).1,(e d bj).1⟩,j⟩
section
variable {w:World}{g gh:Nat}{vw re e:Value}{s:aX}
theorem Ue(y:bC s)(G:s.pm.size<=64)(C:Room s)(m:Jl w)(n:30<=g)(h:cP w g gh vw re e s):
 Calls prog 18 #[.pointer (some ⟨g,0,none⟩)] w λr D=>r= .returned (.tuple #[])/\cP D g gh vw re e (km s)/\w.grownBy D (some g):=by
 obtain⟨d,A⟩:=eZ (nQ s oG 16);have j:d.length=16:=by rw[A.o];exact wv s _ _ an
 have H:∀z∈d,0<=z/\z<=255:=by rw[A.o];exact Dl s _ _
 have I:bI (strOfNums d)=d:=cJ H;have L:(strOfNums d).size=16:=by rw[bG,j]
 obtain⟨S,B⟩:∃S:aX,Hid (S=if s.cl then{s with on:={s.on with xL:=db (iZ d),iD:=true}}else{s with on:={s.on with xM:=db (iZ d),iD:=true}}):=⟨_,aa rfl⟩;have o:bC S:=by rw[B.out];split;exact{y with};exact{y with}
 have k:Room S:=by rw[B.out];split<;>exact⟨C.wn,C.out,C.since⟩
 have p:=rM j;cases l:s.cl
 all_goals
  refine TC.enter func18 ntmps18 _ _ (h.hp y) ?_;refine TC.rg [107000] ?_;refine T.one 1 (TO.qk (v:= .string (strOfNums d)) (λW a=>by rw[A.o];exact BA ⟨#[99,111,111,107,105,101]⟩ 16 y G an an an (m.hp n a).words (m.hp n a).first (eF a)) ?_);refine T.two 2 5 (TO.RF λb c=> ?_) (TO.cf wd.loc (λW a=>(RS W).mono λr E ⟨f,q,t,u⟩=>⟨f,q,t.of,u⟩) λf F J=> ?_)
  all_goals
   first
   |refine T.lt 4 ?_
    refine T.one 5 (TO.cf wd.loc (λW a=>(RS W).mono λr E ⟨f,q,t,u⟩=>⟨f,q,t.of,u⟩) λf F J=> ?_)
   |refine T.one 2 (TO.RF λb c=> ?_)
    refine T.lt 4 ?_
   refine T.one 6 (TO.cf (vf:=λx=> .agg (abX 20 x)) (j6.loc (iZ d)) (λW a=>(Za d j f F W.heap.size W (wd.at_ (by first|exact a.en _ (ah (i:=1) rfl)|exact a.en _ (ah (i:=2) rfl))) (ak _)).mono λr E ⟨M,N,O,P,q,t,u⟩=> ?_) λx Q R=> ?_)
   .obtain⟨x,⟨rfl,rfl,rfl,rfl⟩,K⟩:=j6.of t;exact⟨x,q,K,u⟩
   refine T.one 7 (TO.J λU=> ?_);refine TC.rg [18,19,35] ?_;refine T.one 7 (TO.qk (λW a=>EB W.heap.size (sl x.1) (sl x.2.1) (sl x.2.2.1) (sl x.2.2.2) (iZ d) (oJ j) W (mV.at_ (a.en _ (ah (i:=3) rfl))) (ak _) (m.hp n a).rows) ?_);refine T.put 0 (eY gh vw re e S) (he:=by rw[B.out];(first|rw[aJ l]|rw[aq (by rw[l];decide)])<;>kernel_rfl) ?_;refine T.one 2 (TO.BZ (show bC (l6 S (iZ d))from o.packed _ S.waits) (λW a=>D8 (iZ d) (sl x.1) (sl x.2.1) (sl x.2.2.1) (sl x.2.2.2) (oJ j) (by rw[p];decide) (by rw[p];decide) o k.wn k.out k.since (m.hp n a).rows (m.hp n a).pX (m.hp n a).order (mV.at_ (a.en _ (ah (i:=3) rfl))) (eF a)) ?_);refine TE.rt λW a=>⟨rfl,?_⟩;rw[show km s=l6 S (iZ d) by rw[B.out,A.o];unfold km;simp only[l];rfl];exact a.uT rfl
end
end Go.Proofs.P
