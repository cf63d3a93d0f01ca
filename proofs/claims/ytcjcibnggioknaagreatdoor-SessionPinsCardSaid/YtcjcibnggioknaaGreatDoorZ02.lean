/- Lemmas on which SessionPins rests. -/
import Derived.BigRegion
import Derived.Deep.CutBlock
import Derived.Deep.DeepCutAuto
import Derived.Deep.RegionHeld3
import Derived.Deep.RegionLaw
import Derived.LaidEql
import Derived.Laws.AppendOwnNone
import Derived.Laws.BitsAllLaws
import Derived.Laws.CopyRow
import Derived.Laws.Tables
import Derived.Maps.AppendAt
import Derived.RegionTactic
import Derived.RowKitTokens
import Derived.StillTailTactics
import Derived.Stop.Asserts
import Derived.Test.YtcjcibnggioknaaGreatDoorChecked
import Derived.Test.YtcjcibnggioknaaGreatDoorZ01
set_option maxRecDepth 100000
set_option maxHeartbeats 40000000
set_option linter.unusedVariables false
open Go.RowKit Go.Spk
namespace Go.Spk
section
variable {P:Program}{dr:Bool}{ops:Array Oper}{w W:World}{M X:List Nat}{Q:Exit->Act->World->Prop}{f n n' i j g:Nat}{l:Array Bool}{a a':Act}{v:Value}{m:Bool}{s s' t:List En}{c:Code}{o:Oper}
theorem Hp.zT{ty}{L}{ps}(h:Hp w M t W)(hl:leq dr X s t){p:Nat}(c:s[p]?=some (bl j g m (kL ty L) ps))(a:(dr&&(List.range L.length).any λk=>X.contains (j*1000+k))=false)(n:ps.length=L.length):Lay W g ty ps:=by
 obtain⟨b,d,e,f⟩:=h.yj hl c
 have:b=ps:=by
  have o:b.length=L.length:=by rw[<-e,aM]
  apply jW;intro k
  by_cases i:k<L.length
  .refine f k ?_;cases l:dr
   .rfl
   .rw[l,Bool.true_and]at a;rw[Bool.true_and];have:=List.any_eq_false.1 a k (ek i);simpa using this
  .rw[eI af,eI af]
 exact this▸d
theorem Lay.mid{b}{ps}(h:Lay W g b ps)(a k:Nat)(d:a<=ps.flatten.length):At W g a ((ps.flatten.drop a).take k).toArray:=by
 have c:Lay W g b [ps.flatten.take a,(ps.flatten.drop a).take k,(ps.flatten.drop a).drop k]:=by
  unfold Lay at h⊢
  rw[show[ps.flatten.take a,(ps.flatten.drop a).take k,(ps.flatten.drop a).drop k].flatten=ps.flatten by
   rw[vq,vq,vq,List.flatten_nil,bP,cR,cR]]
  exact h
 refine c.part 1 a _ ?_ rfl;show((ps.flatten.take a).length:: []).sum=a;rw[aO,List.sum_cons,List.sum_nil];omega
theorem T.ls{G:Prop}(n p k:Nat){b}{z}{c}{ty}{L}{ps}(h:G)(e:ops[n]?=some o:=by rfl)(i:o.op= .load b z:=by rfl)(r:fH P dr ops l n=true:=by decide+kernel)(u:Region.wanted o (yielded ops a.tmps)=true:=by rfl)
 (x:a.eval z= .pointer (some ⟨g,c,none⟩):=by rfl) (y:s[p]?=some (bl j g m (kL ty L) ps):=by rfl) (A:(dr&&(List.range L.length).any λk=>(xn X ops l n).contains (j*1000+k))=false:=by decide+kernel) (d:ps.length=L.length:=by rfl) (B:uS P b=true:=by decide+kernel) (hz:(P.info? b).map (·.size)=some k:=by decide+kernel) (hf:c+k<=ps.flatten.length:=by first|decide|(simp[*];done))
 (hv: .agg ((ps.flatten.drop c).take k).toArray=v:=by rfl) (C:a.put o.dst v=a':=by(go_simp;first|done|rfl)) (D:n+1=n':=by(simp only[Nat.reduceAdd];rfl)) {q} (hgo:G->T n' P dr ops w M X Q f (l.setIfInBounds n true) a' s:=by(intro k;refine go ?_;exact k)):T q P dr ops w M X Q (f+1) l a s:=
 ⟨(T.qf n (λt E W F=>by
  have H:=(F.zT E y A d).mid c k af;refine aD ?_;unfold execOp;simp only[i,x,Sem.run_bind,lK b H B (by rw [hz,List.size_toArray,List.length_take,List.length_drop];congr 1;omega),Result.andThen_ok,Sem.run_pure,hv]) (hgo h) e r u C D).o⟩
theorem T.cv{G:Prop}(n p:Nat)(xs:aR){b d e}{z}{r k c}{ty}{L}{ps}(h:G)(x:ops[n]?=some o:=by rfl)(y:o.op= .convert b d z:=by rfl)(A:fH P dr ops l n=true:=by decide+kernel)(B:Region.wanted o (yielded ops a.tmps)=true:=by rfl)
 (C:a.eval z= .slice (some ⟨g,r,none⟩) k c:=by rfl) (D:s[p]?=some (bl j g m (kL ty L) ps):=by rfl) (E:(dr&&(List.range L.length).any λk=>(xn X ops l n).contains (j*1000+k))=false:=by decide+kernel) (v:ps.length=L.length:=by rfl) (h1:P.underlying b=some (.slice e):=by rfl) (F:P.underlying e=some (.int .u8):=by kernel_rfl) (H:P.underlying d=some .string:=by kernel_rfl) (I:xs.length=k:=by first|assumption|(simp[*];done)) (hf:ps.flatten=xs.map (Value.int .u8):=by first|rfl|(simp;done)) (J:r=0:=by rfl)
 (K:a.put o.dst (.string (strOfNums xs))=a':=by(go_simp;first|done|rfl)) (N:n+1=n':=by(simp only[Nat.reduceAdd];rfl)) {q} (hgo:G->T n' P dr ops w M X Q f (l.setIfInBounds n true) a' s:=by(intro k;refine go ?_;exact k)):T q P dr ops w M X Q (f+1) l a s:=
 ⟨(T.qf n (λt O W R=>by
  subst J;have u:=R.zT O D E v;have S:At W g 0 ps.flatten.toArray:=At.j u;refine aD ?_;unfold execOp;have U:=bv (P:=P) W b e h1 F g 0 k c xs I (λi x=>S.1 i _ (by rw[hf];simp[List.getD_eq_getElem?_getD,List.getElem?_eq_getElem (af:i<xs.length)])) d H;simp only[y,C,Sem.run_bind,U,Result.andThen_ok,Sem.run_pure]) (hgo h) x A B K N).o⟩
end
section
variable {P:Program}{dr:Bool}{ops:Array Oper}{w W W':World}{M X:List Nat}{Q:Exit->Act->World->Prop}{f n n' i j g:Nat}{l:Array Bool}{a a':Act}{v:Value}{m:Bool}{s s' t:List En}{c:Code}{o:Oper}
theorem Cw.CM{p}{e e'}(b:s[p]?=some e)(hz:e.z=true):Cw dr X s (s.set p e'):=λ_ x c=>by
 obtain⟨q,a⟩:=List.mem_iff_getElem?.1 c
 by_cases h:p=q
 .subst h;rw[b]at a;injection a with a;subst a;exact .inl hz
 .exact .inr ⟨x.ps,ah (i:=q) (by rw[List.getElem?_set_ne h];exact a),rfl⟩
theorem rS{p}{e' x}(c:x∈s.set p e'):x=e'\/ ∃q,s[q]?=some x/\p≠q:=by
 obtain⟨q,a⟩:=List.mem_iff_getElem?.1 c;rw[List.getElem?_set]at a
 split at a
 .split at a
  .injection a with a;exact .inl a.symm
  .cases a
 .rename_i b;exact .inr ⟨q,a,b⟩
theorem Hp.CM(h:Hp w M s W){p}{e e'}{L}(u:s[p]?=some e)(hm:e.m=true)(t:ci L W W')(F:∀k∈L,e.B k)(v:∀k,e'.B k->e.B k\/W.heap.size<=k)(G:∀k,e'.B k->k<W'.heap.size)(H:e'.p e'.ps W'):Hp w M (s.set p e') W':=by
 obtain⟨I,l⟩:=aI.1 u;have b:e∈s:=ah u;refine⟨h.base.trans t (λm y=>h.own e b hm _ (F m y)),λx n=> ?_,λx n k a=> ?_,λx n z k a=> ?_,?_⟩
 .rcases rS n with rfl|⟨q,c,d⟩
  .exact H
  .exact x.loc _ _ _ (h.en x (ah c)) (λk a=>t.block k (h.ins x (ah c) k a) (λhm=>h.uniq u c d _ a (F k hm))) t.size
 .rcases rS n with rfl|⟨q,c,d⟩
  .exact G k a
  .exact aL (h.ins x (ah c) k a) t.size
 .rcases rS n with rfl|⟨q,c,d⟩
  .rcases v k a with a|a
   .exact h.own e b hm k a
   .exact .inr (ap h.base.size a)
  .exact h.own x (ah c) z k a
 .refine mq.2 λi j A J C k g f=> ?_;rw[List.getElem_set]at g f;have oU:i<s.length:=by simpa using A
  have o:j<s.length:=by simpa using J
  have D:=mq.1 h.nd i j oU o C k;have K:=h.ins _ (nV oU) k;have N:=h.ins _ (nV o) k
  split at g
  .rename_i E;subst E;rw[aq af]at f;rcases v k g with r|r
   .exact D (l▸r) f
   .have:=N f;omega
  .split at f
   .rename_i E;subst E;rcases v k f with r|r
    .exact D g (l▸r)
    .have:=K g;omega
   .exact D g f
theorem Fr.CM{p}{e e'}{L}(b:s[p]?=some e)(c:ci L W W')(d:∀k∈L,e.B k)(f:∀k,e'.B k->e.B k\/W.heap.size<=k):Fr s W (s.set p e') W':=
 ⟨λk a g=>c.block k a (λi=>g e (ah b) (d k i)),c.size,λx j k a=>by
  rcases rS j with rfl|⟨q,l,_⟩
  .exact(f k a).imp (λh=>⟨e,ah b,h⟩) id
  .exact .inl ⟨x,ah l,a⟩⟩
def none_:En:=fa (λ_=>False) (λ_=>True) (λ_ _ _ _ _=>trivial)
theorem Hp.join(h:Hp w M s W){p q}{e1 u e3}(I:s[p]?=some e1)(hq:s[q]?=some u)(Q:p≠q)(v:∀k,e3.B k->e1.B k\/u.B k)(hm:e3.m=true->e1.m=true/\u.m=true)(R:e3.p e3.ps W):Hp w M ((s.set p e3).set q none_) W:=by
 obtain⟨n,y⟩:=aI.1 I;obtain⟨o,z⟩:=aI.1 hq;have J:=ah I;have K:=ah hq
 have A:∀x∈(s.set p e3).set q none_,x=none_\/x=e3\/x∈s:=λx b=>by
  rcases rS b with h|⟨r,h,_⟩
  .exact .inl h
  .rcases rS (ah h)with h|⟨r,h,_⟩
   .exact .inr (.inl h)
   .exact .inr (.inr (ah h))
 refine⟨h.base,λx b=> ?_,λx b k a=> ?_,λx b g k a=> ?_,?_⟩
 .rcases A x b with rfl|rfl|b
  .trivial
  .exact R
  .exact h.en x b
 .rcases A x b with rfl|rfl|b
  .exact a.elim
  .exact(v k a).elim (h.ins _ J k) (h.ins _ K k)
  .exact h.ins x b k a
 .rcases A x b with rfl|rfl|b
  .exact a.elim
  .exact(v k a).elim (h.own _ J (hm g).1 k) (h.own _ K (hm g).2 k)
  .exact h.own x b g k a
 .have U:=λi j (c:i<s.length) (l:j<s.length) (t:i≠j) k=>h.uniq (aQ l) (aQ c) (gT t) k
  have B:∀i (c:i<s.length),i≠q-> ∀k,(((s.set p e3).set q none_)[i]'(ek c)).B k->(i≠p/\s[i].B k)\/i=p/\(s[p].B k\/s[q].B k):=λi c C k a=>by
   rw[List.getElem_set,aq (gT C),List.getElem_set]at a
   split at a
   .rename_i e;subst e;exact .inr ⟨rfl,y▸z▸v k a⟩
   .rename_i e;exact .inl ⟨gT e,a⟩
  have D:∀i (c:i<s.length),i=q-> ∀k,¬(((s.set p e3).set q none_)[i]'(ek c)).B k:=λi c e k a=>by
   rw[List.getElem_set,aJ e.symm]at a;exact a
  refine mq.2 λi j E F t k L N=> ?_;have c:i<s.length:=by simpa using E
  have l:j<s.length:=by simpa using F
  by_cases G:i=q
  .exact D i c G k L
  by_cases H:j=q
  .exact D j l H k N
  rcases B i c G k L with⟨O,d⟩|⟨O,d⟩<;>rcases B j l H k N with⟨P,f⟩|⟨P,f⟩
  .exact U i j c l af k d f
  .rcases f with f|f
   .exact U i p c n O k d f
   .exact U i q c o G k d f
  .rcases d with d|d
   .exact U p j n l (gT P) k d f
   .exact U q j o l (gT H) k d f
  .omega
theorem Hp.ge{p:Nat}{K}{ps}(h:Hp w [] s W)(a:s[p]?=some (bl i g true K ps)):w.heap.size<=g:=(h.own _ (ah a) rfl g rfl).resolve_left (λh=>by cases h)
theorem TE.sw{e}(h:TE w M Q e a s')(b:∀W,Hp w M s W->Hp w M s' W):TE w M Q e a s:=⟨λW c=>h.o W (b W c)⟩
theorem TC.sw(h:TC P w M c Q a s')(b:∀W,Hp w M s W->Hp w M s' W):TC P w M c Q a s:=⟨λW d=>h.o W (b W d)⟩
theorem Il{B z k}{e}{xs}(h:W.ownsRow B e z v k xs)(d:∀k,v.ownBlock=some k->W'.heap[k]?=W.heap[k]?):W'.ownsRow B e z v k xs:=
 ⟨h.1,h.2.imp id λ⟨g,a,b,c,f,i,j⟩=>⟨g,a,b,c,f,(d g (by rw[c];rfl)).trans i,j⟩⟩
def ow(i B:Nat)(t:TypeId)(v:Value)(xs:List Value):En:=⟨i,true,λk=>v.ownBlock=some k,λ_ W=>W.ownsRow B t 1 v xs.length xs,[],λ_ W W' h a _=>Il h a,true⟩
theorem lI{B z k}{e}{xs}(h:W.ownsRow B e z v k xs):∃x,v=sl x:=by
 rcases h.2 with⟨h,_⟩|⟨g,a,b,h,_⟩
 .exact⟨(none,0,0),h⟩
 .exact⟨(some ⟨g,0,none⟩,k,a),h⟩
theorem Bk{B z k}{e}{xs}(h:W.ownsRow B e z v k xs):∀b,v.ownBlock=some b->b<W.heap.size:=λb a=>by
 rcases h.2 with⟨h,_⟩|⟨g,c,d,h,_,f,_⟩
 .rw[h]at a;cases a
 .rw[h]at a;injection a with a;subst a;exact(aT.1 f).1
theorem TC.own{G:Prop}(i:Nat)(t:fg)(h:G)(d:s++ [ow i w.heap.size t (.slice none 0 0) []]=s':=by(simp only[List.cons_append,List.nil_append];rfl))(hgo:G->TC P w M c Q a s':=by(intro k;exact k)):TC P w M c Q a s:=
 ⟨λW e=>(hgo h).o W (d▸e.more (λ_ k b=>by cases b) (λk b=>by cases b) (λ_ _ k _ b=>by cases b) (World.ownsRow_nil W _ _ _))⟩
theorem TC.fct{G:Prop}(B:Nat->Prop)(p:World->Prop)(loc:∀W W',p W->(∀k,B k->W'.heap[k]?=W.heap[k]?)->W.heap.size<=W'.heap.size->p W')(d:∀k,¬B k)(e:∀W,p W)(h:G)(f:s++ [fa B p loc]=s':=by(simp only[List.cons_append,List.nil_append];rfl))(hgo:G->TC P w M c Q a s':=by(intro k;exact k)):TC P w M c Q a s:=
 ⟨λW g=>(hgo h).o W (f▸g.more (λh=>by cases h) (λk b=>(d k b).elim) (λ_ _ k _ b=>d k b) (e W))⟩
def apB(P:Program)(e:TypeId):Bool:=match P.info? e with|some i=>(match i.zero with|some z=>Nat.beq i.size 1&&Nat.beq z.cells.size 1&&Nat.ble i.bytes 100|none=>false)|none=>false
theorem TO.app{cl}{K}{G:Option Addr×Nat×Nat->Prop}(p q:Nat){i j B g c}{m}{t e ty}{x0 s0}{v y}{xs}{L}{ps}{a':Option Addr×Nat×Nat->Act}{s':Option Addr×Nat×Nat->List En}(h:∀x,G x)(I:ops[n]?=some o:=by rfl)(ho:o.op= .call {callee:= .builtin .append,args:= #[s0,x0],argTypes:= #[t,t]}:=by rfl)(hB:ip P dr ops l cl=true:=by decide+kernel)(hw:Region.wanted o (yielded ops a.tmps)=true:=by rfl)(J:gu P o=false:=by rfl)
 (H:s[p]?=some (ow i B e v xs):=by rfl) (hv:a.eval s0=v:=by rfl) (hx:a.eval x0= .slice (some ⟨g,0,none⟩) 1 c:=by rfl) (hq:s[q]?=some (bl j g m (kL ty L) ps):=by rfl) (hy:lk L ps 0=some y:=by rfl) (h1:y.oneCell'=true:=by rfl) (ht:P.underlying t=some (.slice e):=by rfl) (he:apB P e=true:=by decide+kernel) (hl:xs.length<=1000000000:=by omega) (f:B<=w.heap.size:=by exact ak _)
 (ha:∀x,a.put o.dst (sl x)=a' x:=by(intro x;go_simp;first|done|rfl)) (hs:∀x,s.set p (ow i B e (sl x) (xs++ [y]))=s' x:=by(intro x;simp only[List.set_cons_zero,List.set_cons_succ];rfl)) (hgo:∀x,G x->K (a' x) (s' x):=by(intro x k;refine go ?_;exact k)):TO cl P dr ops l w M X n K a s:=by
 refine TO.of I hw J hB λW A=> ?_;have C:W.ownsRow B e 1 v xs.length xs:=A.en _ (ah H);have hc:W.cell? ⟨g,0,none⟩=some y:=Lay.lk (A.lay (ah hq)) (A.en _ (ah hq)).1 hy;unfold apB at he;cases hq:P.info? e with
 |none=>simp[hq]at he
 |some r=>
  cases N:r.zero with
  |none=>simp[hq,N]at he
  |some z=>
   simp only[hq,N,Bool.and_eq_true,Nat.ble_eq]at he;obtain⟨⟨O,Q⟩,e3⟩:=he;replace O:=mb O;replace Q:=mb Q
   obtain⟨v',R,hr,S,D,_,E⟩:=run_append_own_at (P:=P) W B t o.type e r z 1 r.bytes ht hq N O rfl Q an v xs.length xs C ⟨g,0,none⟩ 1 c [y] rfl (λj u U=>by
    cases j with
    |zero=>simp at U;subst U;exact hc
    |succ j=>simp at U) (λu hu=>by obtain rfl:=ar.1 hu;exact h1) (by simp only[maxLen];omega) (ap (fT (af:xs.length+1<=1000000001) e3) an) (ap f A.base.size)
   obtain⟨x,rfl⟩:=lI S;have Y:ci v.ownBlock.toList W R:=⟨D.os,D.tape,D.output,D.size,λi I hn=>D.block i I (λe=>hn (by rw[<-e];simp))⟩
   have Z:∀k∈v.ownBlock.toList,(ow i B e v xs).B k:=λk d=>by
    show v.ownBlock=some k;cases hv:v.ownBlock with
    |none=>rw[hv]at d;cases d
    |some b=>rw[hv]at d;rw[ar.1 d]
   have F:∀k,(ow i B e (sl x) (xs++ [y])).B k->(ow i B e v xs).B k\/W.heap.size<=k:=λk d=>by
    rcases E with E|E
    .exact .inl (E.symm.trans d)
    .have:some W.heap.size=some k:=E.symm.trans d;injection this with this;exact .inr af
   have V:(execOp a.eval o).run P W= .ok (.value (sl x)) R:=by
    unfold execOp;simp only[ho,resolve,invoke,builtin,Sem.run_bind,Sem.run_pure,Result.andThen_ok,List.map_toArray,List.map_cons,List.map_nil,hv,hx,hr]
   rw[V];refine⟨_,Cw.CM H rfl,A.CM H rfl Y Z F (λk d=>Bk S k d) (by show R.ownsRow B e 1 (sl x) (xs++ [y]).length _;rw[am];exact S),(Fr.CM H Y Z F).b,?_⟩;show K (a.put o.dst (sl x)) _;rw[ha,hs];exact hgo x (h x)
theorem TO.cp{f}{K}{G:Nat->Prop}{a':Nat->Act}{cs}{q}{t}{z}{s':Nat->List En}{g}{args}(m:∀W,Hp w M s W->Calls P g args W λr W'=>r= .returned (.pointer (some ⟨W.heap.size,0,none⟩))/\W'.heap[W.heap.size]?=some (.cells cs t)/\Below W.heap.size W W')(h:∀b,G b)(p:ip P dr ops l f=true:=by decide+kernel)(u:ops[n]?=some o:=by rfl)(v:Region.wanted o (yielded ops a.tmps)=true:=by rfl)(d:gu P o=false:=by rfl)
 (x:∀W,(execOp a.eval o).run P W= .ok (.enter g args) W:=by(intro W;go_simp;first|done|rfl)) (hq:cs.toList=q:=by rfl) (hz:cs.size=z:=by rfl) (y:∀b,a.put o.dst (.pointer (some ⟨b,0,none⟩))=a' b:=by(intro b;go_simp;first|done|rfl)) (A:∀b,s++ [bl (100+n) b true (kL t [z]) [q]]=s' b:=by(intro b;simp only[List.cons_append,List.nil_append,Nat.reduceAdd];rfl)) (hgo:∀b,G b->K (a' b) (s' b):=by(intro b k;refine go ?_;exact k)):TO f P dr ops l w M X n K a s:=by
 subst hq hz;refine TO.of u v d p λW e=> ?_;rw[x W];refine(m W e).mono λr W' ⟨C,i,j⟩=> ?_
 have c:∀k,(bl (100+n) W.heap.size true (kL t [cs.size]) [cs.toList]).B k->W.heap.size<=k/\k<W'.heap.size:=λk c=>by
  obtain rfl:k=W.heap.size:=c;exact⟨ak _,(aT.1 i).1⟩
 refine⟨_,s++ [bl (100+n) W.heap.size true (kL t [cs.size]) [cs.toList]],C,λ_=>uO.push _,e.push j c ⟨by simp[bl],by rw[i];simp[bl]⟩,(Fr.push e j c).b,?_⟩;show K (a.put o.dst _) _;rw[y,A];exact hgo _ (h _)
theorem TO.cb{cs}{K}{G:Prop}{d}{args}{j g}{b}{L}{ps}(p:Nat)(qs:qu)(e:∀W,Hp w M s W->Calls P d args W λr W'=>r= .returned v/\kL b L qs W'.heap[g]?/\ci [g] W W')(h:G)(f:s[p]?=some (bl j g true (kL b L) ps):=by rfl)
 (i:ops[n]?=some o:=by rfl) (m:ip P dr ops l cs=true:=by decide+kernel) (q:Region.wanted o (yielded ops a.tmps)=true:=by rfl) (c:gu P o=false:=by rfl) (t:∀W,(execOp a.eval o).run P W= .ok (.enter d args) W:=by(intro W;go_simp;first|done|with_reducible rfl)) (u:dr=true->er (xo X n) j qs=er (xo X n) j ps:=by first|(intro h;cases h;done)|(intro _;kernel_rfl)) (x:a.put o.dst v=a':=by(go_simp;first|done|rfl)) (y:s.set p (bl j g true (kL b L) qs)=s':=by(simp only[List.set_cons_zero,List.set_cons_succ];rfl)) (hgo:G->K a' s':=by(intro k;refine go ?_;exact k)):TO cs P dr ops l w M X n K a s:=
 TO.call m p f e (by rw[y];exact hgo h) i q c t u x
theorem TO.cbf{cl}{K}{ι:Type}{G:ι->Nat->Nat->Prop}{vf:ι->Value}{pf:ι->Nat->Nat->World->Prop}{u}{args}{v:ι->Act}{A:ι->Nat->Nat->List En}{j g}{f}{L}{ps}(p:Nat)(qs:qu)(hl:∀x c b W W',pf x c b W->(∀k,c<=k/\k<b->W'.heap[k]?=W.heap[k]?)->W.heap.size<=W'.heap.size->pf x c b W')
 (D:∀W,Hp w M s W->Calls P u args W λr W'=> ∃x,r= .returned (vf x)/\kL f L qs W'.heap[g]?/\pf x W.heap.size W'.heap.size W'/\ci [g] W W') (h:∀x c b,G x c b) (i:s[p]?=some (bl j g true (kL f L) ps):=by rfl) (b:ops[n]?=some o:=by rfl) (E:ip P dr ops l cl=true:=by decide+kernel) (F:Region.wanted o (yielded ops a.tmps)=true:=by rfl) (q:gu P o=false:=by rfl)
 (H:∀W,(execOp a.eval o).run P W= .ok (.enter u args) W:=by(intro W;go_simp;first|done|rfl)) (I:dr=true->er (xo X n) j qs=er (xo X n) j ps:=by first|(intro h;cases h;done)|(intro _;kernel_rfl)) (J:∀x,a.put o.dst (vf x)=v x:=by(intro x;go_simp;first|done|rfl)) (N:∀x c b,s.set p (bl j g true (kL f L) qs)++ [fa (λk=>c<=k/\k<b) (pf x c b) (λW W'=>hl x c b W W')]=A x c b:=by(intro x c b;simp only[List.set_cons_zero,List.set_cons_succ,List.cons_append,List.nil_append];rfl))
 (hgo:∀x c b,G x c b->K (v x) (A x c b):=by(intro x c b k;refine go ?_;exact k)):TO cl P dr ops l w M X n K a s:=by
 refine TO.of b F q E λW t=> ?_;rw[H W];refine(D W t).mono λr W' ⟨x,O,Q,R,B⟩=> ?_;have hF:=Fr.oE i rfl qs B;refine⟨_,s.set p (bl j g true (kL f L) qs)++ [fa (λk=>W.heap.size<=k/\k<W'.heap.size) (pf x W.heap.size W'.heap.size) (λV S=>hl x _ _ V S)],O,λU=>(Cw.oE i I U).trans (uO.push _),(t.oE i rfl rfl qs B Q).more (λh=>by cases h) (λk m=>m.2) (λy Y k C Z=> ?_) R,⟨λ_=>⟨hF.et,hF.size,λe d k m=> ?_⟩⟩,?_⟩
 .obtain⟨z,hz,e1,_⟩:=xh i Y;rw[e1]at C;exact absurd (t.ins z hz k C) (Nat.not_lt.2 Z.1)
 .rcases bT.1 d with d|d
  .exact hF.new e d k m
  .obtain rfl:=ar.1 d;exact .inr m.1
 .show K (a.put o.dst (vf x)) _;rw[J,N];exact hgo x _ _ (h x _ _)
end
section
variable {P:Program}{dr:Bool}{ops:Array Oper}{w W W':World}{M X:List Nat}{Q:Exit->Act->World->Prop}{f n n' i j g:Nat}{l:Array Bool}{a a':Act}{v:Value}{m:Bool}{s s' t:List En}{c:Code}{o:Oper}
theorem Rf{t}{cs}(h:Lay W g t [cs]):Whole W g t cs.toArray:=by
 have a:Whole W g t [cs].flatten.toArray:=h;simpa using a
theorem TE.rv{fn}{R}{e}(h:∀W,Hp w M s W->R (.returned v) W)(he:e= .ret\/e= .normal:=by first|exact .inl rfl|exact .inr rfl)(b:a.defers= []:=by rfl)(c:∀W,(results fn a.tmps).run P W= .ok v W:=by(intro W;exact(results_tmp rfl _ _ _).trans rfl)):TE w M (bodyPost P fn R) e a s:=TE.rt h he b c
theorem T.Xv{G:Prop}(n p:Nat)(xs:aR){src dst e}{z}{b k c}{ty}{L}{ps}(h:G)(i:ops[n]?=some o:=by rfl)(r:o.op= .convert src dst z:=by rfl)(t:fH P dr ops l n=true:=by decide+kernel)(u:Region.wanted o (yielded ops a.tmps)=true:=by rfl)
 (v:a.eval z= .slice (some ⟨g,b,none⟩) k c:=by rfl) (x:s[p]?=some (bl j g m (kL ty L) ps):=by rfl) (y:(dr&&(List.range L.length).any λk=>(xn X ops l n).contains (j*1000+k))=false:=by decide+kernel) (d:ps.length=L.length:=by rfl) (h1:P.underlying src=some (.slice e):=by rfl) (A:P.underlying e=some (.int .u8):=by kernel_rfl) (B:P.underlying dst=some .string:=by kernel_rfl) (C:xs.length=k:=by first|assumption|(simp[*];done)) (hf:ps= [xs.map (Value.int .u8)]:=by rfl) (D:b=0:=by rfl)
 (E:a.put o.dst (.string (strOfNums xs))=a':=by(go_simp;first|done|rfl)) (F:n+1=n':=by(simp only[Nat.reduceAdd];rfl)) {q} (hgo:G->T n' P dr ops w M X Q f (l.setIfInBounds n true) a' s:=by(intro k;refine go ?_;exact k)):T q P dr ops w M X Q (f+1) l a s:=
 T.cv n p xs h i r t u v x y d h1 A B C (by rw[hf];simp) D E F hgo
theorem TC.mz{G:Prop}(n:Nat)(h:G)(b:s.take n=s':=by(simp only[List.take_succ_cons,List.take_zero];rfl))(hgo:G->TC P w M c Q a s':=by(intro k;refine go ?_;exact k)):TC P w M c Q a s:=
 ⟨λW d=>(hgo h).o W (b▸Hp.less (t:=s.drop n) (by rw[cR];exact d))⟩
theorem T.lk{G:Prop}(n p k:Nat)(v:cH){ty'}{z}{b}{ty}{L}{ps}(h:G)(d:ops[n]?=some o:=by rfl)(e:o.op= .load ty' z:=by rfl)(i:fH P dr ops l n=true:=by decide+kernel)(r:Region.wanted o (yielded ops a.tmps)=true:=by rfl)
 (t:a.eval z= .pointer (some ⟨g,b,none⟩):=by rfl) (u:s[p]?=some (bl j g m (kL ty L) ps):=by rfl) (x:(dr&&(List.range L.length).any λk=>(xn X ops l n).contains (j*1000+k))=false:=by decide+kernel) (c:ps.length=L.length:=by rfl) (y:uS P ty'=true:=by decide+kernel) (hz:(P.info? ty').map (·.size)=some k:=by decide+kernel) (hf:Nat.ble (b+k) ps.flatten.length=true:=by kernel_rfl)
 (hv: .agg ((ps.flatten.drop b).take k).toArray=v:=by kernel_rfl) (A:a.put o.dst v=a':=by(go_simp;first|done|rfl)) (B:n+1=n':=by(simp only[Nat.reduceAdd];rfl)) {q} (hgo:G->T n' P dr ops w M X Q f (l.setIfInBounds n true) a' s:=by(intro k;refine go ?_;exact k)):T q P dr ops w M X Q (f+1) l a s:=
 T.ls n p k h d e i r t u x c y hz (Nat.le_of_ble_eq_true hf) hv A B hgo
theorem T.qv{G:Prop}(n:Nat)(v:cH)(h:G)(b:ops[n]?=some o:=by rfl)(c:fH P dr ops l n=true:=by decide+kernel)(d:Region.wanted o (yielded ops a.tmps)=true:=by rfl)(hq:zA P dr w M (xn X ops l n) s o a v:=by(apply zA.plain rfl;intro W;go_simp;done))(e:a.put o.dst v=a':=by(go_simp;first|done|rfl))(g:n+1=n':=by(simp only[Nat.reduceAdd];rfl)){k}(hgo:G->T n' P dr ops w M X Q f (l.setIfInBounds n true) a' s:=by(intro k;refine go ?_;exact k)):T k P dr ops w M X Q (f+1) l a s:=⟨(T.qf n hq (hgo h) b c d e g).o⟩
end
theorem TE.zc{fn}{R}{e}{w}{M}{v}{a}{t}(h:∀W,Hp w M t W->R (.returned v) W)(he:e= .ret\/e= .normal:=by first|exact .inl rfl|exact .inr rfl)(b:a.defers= []:=by rfl)(c:∀(P:abm) W,(results fn a.tmps).run P W= .ok v W:=by(intro P W;exact(results_tmp2 rfl _ _ _).trans rfl)){P}:TE w M (bodyPost P fn R) e a t:=TE.rt h he b (c P)
open Classical
section
variable {P:Program}{dr:Bool}{ops:Array Oper}{w W W':World}{M N X L:List Nat}{Q:Exit->Act->World->Prop}{f n n' d:Nat}{l:Array Bool}{a a':Act}{v:Value}{z:Bool}{rest r s s':List En}{c:Code}{o:Oper}{q q':World->Prop}
def Alike(w V:World):Prop:=V.os=w.os/\V.tape=w.tape/\V.output=w.output
def rE(w:World)(z:Bool)(N:List Nat)(rest:List En)(d:Nat)(q:World->Prop):En:=
 ⟨99,false,λk=>k<w.heap.size+d/\ ∀x∈rest,¬x.B k,λ_ W=>(w.heap.size+d<=W.heap.size/\ ∀k∈N,k<w.heap.size/\ ∀x∈rest,¬x.B k)/\ ∀V,Alike w V->w.heap.size+d<=V.heap.size->(∀k,(k<w.heap.size+d/\ ∀x∈rest,¬x.B k)->V.heap[k]?=W.heap[k]?)->q V,[],λ_ W W' h f g=>⟨⟨ap h.1.1 g,h.1.2⟩,λV a b c=>h.2 V a b λk e=>(c k e).trans (f k e)⟩,z⟩
theorem Hp.alike(h:Hp w M s W):Alike w W:=⟨h.base.os,h.base.tape,h.base.output⟩
theorem Hp.qq(h:Hp w M s W){p:Nat}(a:s[p]?=some (rE w z N rest d q):=by first|exact Ya|exact Nt):q W:=(h.en _ (ah a)).2 W h.alike (h.en _ (ah a)).1.1 λ_ _=>rfl
def qI(r:List En)(q:World->Prop)(W:World):Prop:= ∀V L,ci L W V->(∀k∈L,∃x∈r,x.B k)->q V
theorem XM(n:w.heap.size<=W'.heap.size)(d:Alike w W')(f:∀k∈N,k<w.heap.size/\ ∀x∈r,¬x.B k)(hq:qI r q W'):(rE w z N r (W'.heap.size -w.heap.size) q).p [] W':=by
 have e:w.heap.size+(W'.heap.size -w.heap.size)=W'.heap.size:=af;refine⟨⟨Nat.le_of_eq e,f⟩,λV a b c=>hq V ((List.range W'.heap.size).filter λk=>decide (∃x∈r,x.B k)) ⟨a.1.trans d.1.symm,a.2.1.trans d.2.1.symm,a.2.2.trans d.2.2.symm,af,λi g h=>c i ⟨af,λx j l=>h (ea.2 ⟨List.mem_range.2 g,fj ⟨x,j,l⟩⟩)⟩⟩ (λk m=>qy (ea.1 m).2)⟩
theorem Hp.off(h:Hp w M (rE w z N rest d q::r) W):∀x∈r,∀k,x.B k->k∉N:=λx b k c e=>by
 have a:=((h.en _ (.head _)).1).2 k e;exact(jh.1 h.nd).1 x b k ⟨by have:=a.1;omega,a.2⟩ c
theorem Hp.re(h:Hp w M (rE w z N rest d q::r) W)(i:ci L W W')(n:∀k∈L,k∈N)(o:∀k∈N,k∈M)(hq:qI r q' W'):Hp w M (rE w z N r (W'.heap.size -w.heap.size) q'::r) W':=by
 have j:=jh.1 h.nd;have c:∀x∈r,∀k,x.B k->k∉N:=h.off;have f:=h.base.trans i (λm g=> .inl (o m (n m g)));have e:w.heap.size+(W'.heap.size -w.heap.size)=W'.heap.size:=by have:=f.size;omega
 refine⟨f,λx a=> ?_,λx a k b=> ?_,λx a g=> ?_,jh.2 ⟨λx a k b l=>b.2 x a l,j.2⟩⟩
 all_goals rcases dz.1 a with rfl|a
 .exact XM f.size ⟨f.os,f.tape,f.output⟩ (λk b=>⟨((h.en _ (.head _)).1.2 k b).1,λx a l=>c x a k l b⟩) hq
 .exact x.loc _ _ _ (h.en x (.tail _ a)) (λk b=>i.block k (h.ins x (.tail _ a) k b) (λg=>c x a k b (n k g))) i.size
 .exact e▸b.1
 .exact aL (h.ins x (.tail _ a) k b) i.size
 .cases g
 .exact h.own x (.tail _ a) g
theorem Hp.st(h:Hp w M r w)(d:∀k∈N,k<w.heap.size/\ ∀x∈r,¬x.B k)(hq:qI r q w):Hp w M (rE w z N r 0 q::r) w:=by
 have:=XM (w:=w) (z:=z) (ak _) ⟨rfl,rfl,rfl⟩ d hq;rw[Nat.sub_self]at this;refine⟨h.base,λx a=> ?_,λx a k b=> ?_,λx a c=> ?_,jh.2 ⟨λx a k b e=>b.2 x a e,h.nd⟩⟩
 all_goals rcases dz.1 a with rfl|a
 .exact this
 .exact h.en x a
 .exact b.1
 .exact h.ins x a k b
 .cases c
 .exact h.own x a c
theorem Hp.rq(h:Hp w M (rE w z N rest d q::r) W)(f:∀V,q V->q' V):Hp w M (rE w z N rest d q'::r) W:=by
 refine⟨h.base,λx e=> ?_,λx e k g=> ?_,λx e i=> ?_,jh.2 ⟨(jh.1 h.nd).1,(jh.1 h.nd).2⟩⟩
 all_goals rcases dz.1 e with rfl|e
 .have:=h.en _ (.head _);exact⟨this.1,λV a b c=>f V (this.2 V a b c)⟩
 .exact h.en x (.tail _ e)
 .exact h.ins (rE w z N rest d q) (.head _) k g
 .exact h.ins x (.tail _ e) k g
 .cases i
 .exact h.own x (.tail _ e) i
theorem TC.rq{G:Prop}(q':World->Prop)(b:∀V,q V->q' V)(h:G)(hgo:G->TC P w M c Q a (rE w z N rest d q'::r):=by(intro k;refine go ?_;exact k)):TC P w M c Q a (rE w z N rest d q::r):=TC.sw (hgo h) λW e=>e.rq b
theorem TO.re{cl}{K}{ι:Type}{G:ι->Nat->Prop}(q':ι->World->Prop){vf:ι->Value}(L:iT){g}{args}{i:ι->Act}(j:∀W,Hp w M (rE w z N rest d q::r) W->q W->Calls P g args W λe W'=> ∃x,e= .returned (vf x)/\qI r (q' x) W'/\ci L W W')(h:∀x d,G x d)
 (m:∀k∈L,k∈N:=by(simp;done)) (p:∀k∈N,k∈M:=by(simp;done)) (s:ops[n]?=some o:=by rfl) (t:ip P dr ops l cl=true:=by decide+kernel) (u:Region.wanted o (yielded ops a.tmps)=true:=by rfl) (b:gu P o=false:=by rfl) (v:∀W,(execOp a.eval o).run P W= .ok (.enter g args) W:=by(intro W;go_simp;first|done|rfl)) (A:(J6 P ops)=false:=by decide+kernel) (hz:(dr&& !z)=false:=by rfl) (B:∀x,a.put o.dst (vf x)=i x:=by(intro x;go_simp;first|done|rfl)) (hgo:∀x d,G x d->K (i x) (rE w z N r d (q' x)::r):=by(intro x d k;refine go ?_;exact k)):TO cl P dr ops l w M X n K a (rE w z N rest d q::r):=by
 refine TO.of s u b t λW c=> ?_;rw[v W];refine(j W c c.qq).mono λe W' ⟨x,C,D,E⟩=>⟨_,rE w z N r (W'.heap.size -w.heap.size) (q' x)::r,C,λF y f=> ?_,c.re E m p D,⟨λH=>absurd (A.symm.trans H) an⟩,by show K (a.put o.dst (vf x)) _;rw[B];exact hgo x _ (h x _)⟩;rcases dz.1 f with rfl|f
 .exact .inl (by show z=true;rw[F]at hz;simpa using hz)
 .exact .inr ⟨y.ps,.tail _ f,rfl⟩
theorem T.rl{G:Prop}(n:Nat)(v:cH){ty'}{u}{g b}(m:∀W,Alike w W->q W->W.cell? ⟨g,b,none⟩=some v)(h:G)(p:ops[n]?=some o:=by rfl)(s:o.op= .load ty' u:=by rfl)(x:fH P dr ops l n=true:=by decide+kernel)(y:Region.wanted o (yielded ops a.tmps)=true:=by rfl)(hz:(dr&&z)=false:=by rfl)(A:EC P ty'=true:=by decide+kernel)
 (B:a.eval u= .pointer (some ⟨g,b,none⟩):=by rfl) (C:a.put o.dst v=a':=by(go_simp;first|done|rfl)) (D:n+1=n':=by(simp only[Nat.reduceAdd];rfl)) {k} (hgo:G->T n' P dr ops w M X Q f (l.setIfInBounds n true) a' (rE w z N rest d q::r):=by(intro k;refine go ?_;exact k)):T k P dr ops w M X Q (f+1) l a (rE w z N rest d q::r):=
 ⟨(T.qf n (λt e W c=>by
  have E:q W:=by
   cases i:dr
   .rw[i]at e;obtain rfl:t=_:=e;exact c.qq
   .rw[i]at e hz;obtain⟨F,j,_⟩:=((show uO _ _ t from e) _ (.head _)).resolve_left (λh=>absurd (hz.symm.trans h) an);exact(c.en _ j).2 W c.alike (c.en _ j).1.1 λ_ _=>rfl
  refine aD ?_;unfold execOp;simp only[s,B,Sem.run_bind,oL W _ ty' (m W c.alike E) A,Result.andThen_ok,Sem.run_pure]) (hgo h) p x y C D).o⟩
end
section
variable {P:Program}{dr:Bool}{ops:Array Oper}{w W W':World}{M X:List Nat}{Q:Exit->Act->World->Prop}{f n n' i j g:Nat}{l:Array Bool}{a a':Act}{v:Value}{m:Bool}{s s' t:List En}{c:Code}{o:Oper}
theorem TC.EO{G:Prop}{a k:Nat}{fn}{args t}{R}{c}(hf:P.funcs[a]?=some fn)(b:fn.ntmps=k)(d:Hp w M s W)(h:G)(e:fn.body=some c:=by rfl)
 (f:args++Array.replicate (k -args.size) undef=t:=by(simp only[List.size_toArray,List.length_cons,List.length_nil,Nat.reduceAdd,Nat.reduceSub,Array.replicate_succ,Array.replicate_zero,List.push_toArray,List.append_toArray,List.nil_append,List.cons_append];rfl)) (hgo:G->TC P w M c (bodyPost P fn R) ⟨t,[]⟩ s:=by(intro k;refine go ?_;exact k)):Calls P a args W R:=
 calls_of_wp hf e (by rw[b,f];exact(hgo h).o W d)
theorem TC.base{M':World->List Nat}{s':World->List En}(d:∀W,Hp w M s W->Hp W (M' W) (s' W) W)(h:∀W,Hp w M s W->TC P W (M' W) c Q a (s' W)):TC P w M c Q a s:=⟨λW b=>(h W b).o W (d W b)⟩
theorem TO.hp{cl}{K}{ι:Type}{G:ι->Prop}{vf:ι->Value}{b:ι->List En}{d}{args}{f:ι->Act}(g:∀W,Hp w M s W->Calls P d args W λe W'=> ∃x,e= .returned (vf x)/\Hp w M (b x) W')(h:∀x,G x)
 (i:ops[n]?=some o:=by rfl) (j:ip P dr ops l cl=true:=by decide+kernel) (m:Region.wanted o (yielded ops a.tmps)=true:=by rfl) (c:gu P o=false:=by rfl) (p:∀W,(execOp a.eval o).run P W= .ok (.enter d args) W:=by(intro W;go_simp;first|done|rfl)) (q:(J6 P ops)=false:=by decide+kernel) (hl:∀x,Cw dr (xo X n) s (b x):=by(intro _ h;cases h;done)) (r:∀x,a.put o.dst (vf x)=f x:=by(intro x;go_simp;first|done|rfl)) (hgo:∀x,G x->K (f x) (b x):=by(intro x k;refine go ?_;exact k)):TO cl P dr ops l w M X n K a s:=by
 refine TO.of i m c j λW t=> ?_;rw[p W];exact(g W t).mono λe W' ⟨x,u,v⟩=>⟨_,b x,u,hl x,v,⟨λy=>absurd (q.symm.trans y) an⟩,by show K (a.put o.dst (vf x)) _;rw[r];exact hgo x (h x)⟩
theorem TO.apl{cl}{K}{G:Option Addr×Nat×Nat->Prop}(p:Nat){i B}{t e}{x0 s0}{v u}{xs ys}{a':Option Addr×Nat×Nat->Act}{s':Option Addr×Nat×Nat->List En}
 (hy:∀W,Hp w M s W-> ∃B2,W.ownsRow B2 e 1 u ys.length ys/\ ∀b,u.ownBlock=some b->v.ownBlock≠some b) (h1:∀y∈ys,y.oneCell'=true) (hn:xs.length+ys.length<=1000000000) (h:∀x,G x)
 (L:ops[n]?=some o:=by rfl) (ho:o.op= .call {callee:= .builtin .append,args:= #[s0,x0],argTypes:= #[t,t]}:=by rfl) (N:o.type=t:=by rfl) (hB:ip P dr ops l cl=true:=by decide+kernel) (hw:Region.wanted o (yielded ops a.tmps)=true:=by rfl) (O:gu P o=false:=by rfl)
 (H:s[p]?=some (ow i B e v xs):=by rfl) (hv:a.eval s0=v:=by rfl) (hx:a.eval x0=u:=by rfl) (ht:P.underlying t=some (.slice e):=by rfl) (he:apB P e=true:=by decide+kernel) (g:B<=w.heap.size:=by exact ak _)
 (ha:∀x,a.put o.dst (sl x)=a' x:=by(intro x;go_simp;first|done|rfl)) (hs:∀x,s.set p (ow i B e (sl x) (xs++ys))=s' x:=by(intro x;simp only[List.set_cons_zero,List.set_cons_succ];rfl)) (hgo:∀x,G x->K (a' x) (s' x):=by(intro x k;refine go ?_;exact k)):TO cl P dr ops l w M X n K a s:=by
 refine TO.of L hw O hB λW I=> ?_;have c:W.ownsRow B e 1 v xs.length xs:=I.en _ (ah H);obtain⟨B2,Q,ad⟩:=hy W I;unfold apB at he;cases D:P.info? e with
 |none=>simp[D]at he
 |some r=>
  cases R:r.zero with
  |none=>simp[D,R]at he
  |some z=>
   simp only[D,R,Bool.and_eq_true,Nat.ble_eq]at he;obtain⟨⟨S,U⟩,e3⟩:=he;replace S:=mb S;replace U:=mb U
   have key:∃m f,(Builtin.append_ #[t,t] o.type #[v,u]).run P W= .ok m f/\f.ownsRow B e 1 m (xs++ys).length (xs++ys)/\W.grownBy f v.ownBlock/\(m.ownBlock=v.ownBlock\/m.ownBlock=some W.heap.size):=by
    rw[N];rcases Q.2 with⟨V,hm⟩|⟨q,Y,ae,V,aj,hc,al,J,A,h4⟩
    .have C:=run_append_owned_none (P:=P) (w:=W) B t t e r 1 ht D v xs.length xs c;have Z:ys= []:=o5 (by rw[hm]);subst V Z;exact⟨v,W,C,by rw[bP];exact c,ez _ _,.inl rfl⟩
    .obtain⟨m,f,C,a1,a2,_,a4⟩:=run_append_own_at (P:=P) W B t t e r z 1 r.bytes ht D R S rfl U an v xs.length xs c ⟨q,0,none⟩ ys.length Y ys (Nat.mul_one _).symm (λj y hj=>by
      have ao:=(aI.1 hj).1;rw[show(⟨q,0,none⟩:Addr).add j=⟨q,j,none⟩ by simp[Addr.add];exact λh=>h.symm,Whole.at_ (t:=e) hc];rw[<-h4,js af]at hj;simpa using hj) h1 (by simp only[maxLen];omega) (ap (fT (af:xs.length+ys.length<=1000000000) e3) an) (ap g I.base.size)
     rw[<-V]at C;rw[<-am]at a1;exact⟨m,f,C,a1,a2,a4⟩
   obtain⟨m,f,C,J,A,E⟩:=key;obtain⟨x,rfl⟩:=lI J;have hg:ci v.ownBlock.toList W f:=⟨A.os,A.tape,A.output,A.size,λi L hn=>A.block i L (λe=>hn (by rw[<-e];simp))⟩
   have hL:∀k∈v.ownBlock.toList,(ow i B e v xs).B k:=λk d=>by
    show v.ownBlock=some k;cases hv:v.ownBlock with
    |none=>rw[hv]at d;cases d
    |some b=>rw[hv]at d;rw[ar.1 d]
   have F:∀k,(ow i B e (sl x) (xs++ys)).B k->(ow i B e v xs).B k\/W.heap.size<=k:=λk d=>by
    rcases E with E|E
    .exact .inl (E.symm.trans d)
    .have:some W.heap.size=some k:=E.symm.trans d;injection this with this;exact .inr af
   have ab:(execOp a.eval o).run P W= .ok (.value (sl x)) f:=by
    unfold execOp;simp only[ho,resolve,invoke,builtin,Sem.run_bind,Sem.run_pure,Result.andThen_ok,List.map_toArray,List.map_cons,List.map_nil,hv,hx,C]
   rw[ab];refine⟨_,Cw.CM H rfl,I.CM H rfl hg hL F (λk d=>Bk J k d) J,(Fr.CM H hg hL F).b,?_⟩;show K (a.put o.dst (sl x)) _;rw[ha,hs];exact hgo x (h x)
theorem Hp.rz{q}{N}{rest r}{d}{z}(e:Bool)(h:Hp w M (rE w z N rest d q::r) W):Hp w M (rE w e N rest d q::r) W:=by
 refine⟨h.base,λx a=> ?_,λx a k b=> ?_,λx a c=> ?_,jh.2 (jh.1 h.nd)⟩
 all_goals rcases dz.1 a with rfl|a
 .exact h.en (rE w z N rest d q) (.head _)
 .exact h.en x (.tail _ a)
 .exact h.ins (rE w z N rest d q) (.head _) k b
 .exact h.ins x (.tail _ a) k b
 .cases c
 .exact h.own x (.tail _ a) c
theorem TC.rz{G:Prop}{q}{N}{rest r}{d}{z}(h:G)(hgo:G->TC P w M c Q a (rE w false N rest d q::r):=by(intro k;refine go ?_;exact k)):TC P w M c Q a (rE w z N rest d q::r):=TC.sw (hgo h) λW b=>b.rz false
theorem Hp.rle{q}{N}{rest r t}{d}(hl:leq dr X (rE w false N rest d q::r) t)(h:Hp w M t W):q W:=by
 cases dr
 .obtain rfl:t=_:=hl;exact h.qq
 .obtain⟨b,a,_⟩:=((show uO X _ t from hl) _ (.head _)).resolve_left (λh=>by cases h);exact(h.en _ a).2 W h.alike (h.en _ a).1.1 λ_ _=>rfl
theorem T.rk{G:Prop}{q}{N}{rest r}{d}(n:Nat){b}{args}(e:∀W,ci M w W->q W->Calls P b args W λr W'=>r= .returned v/\Below W.heap.size W W')(h:G)(g:ops[n]?=some o:=by rfl)(i:fH P dr ops l n=true:=by decide+kernel)(j:Region.wanted o (yielded ops a.tmps)=true:=by rfl)
 (m:∀W,(execOp a.eval o).run P W= .ok (.enter b args) W:=by(intro W;go_simp;first|done|rfl)) (p:a.put o.dst v=a':=by(go_simp;first|done|rfl)) (s:n+1=n':=by(simp only[Nat.reduceAdd];rfl)) {k} (hgo:G->T n' P dr ops w M X Q f (l.setIfInBounds n true) a' (rE w false N rest d q::r):=by(intro k;refine go ?_;exact k)):T k P dr ops w M X Q (f+1) l a (rE w false N rest d q::r):=
 T.qc n (λt u W c=>e W c.base (Hp.rle u c)) h g i j m p s hgo
theorem Hp.q0{q}{N}{rest r}{d}{z}(h:Hp w M (rE w z N rest d q::r) W):q W:=h.qq
theorem TO.rk{cl}{K}{G:Prop}{q}{N}{rest r}{d}{z}{c}{args}(f:∀W,ci M w W->q W->Calls P c args W λr W'=>r= .returned v/\Below W.heap.size W W')(h:G)(g:ops[n]?=some o:=by rfl)(i:ip P dr ops l cl=true:=by decide+kernel)(j:Region.wanted o (yielded ops a.tmps)=true:=by rfl)(b:gu P o=false:=by rfl)
 (m:∀W,(execOp a.eval o).run P W= .ok (.enter c args) W:=by(intro W;go_simp;first|done|rfl)) (p:a.put o.dst v=a':=by(go_simp;first|done|rfl)) (hgo:G->K a' (rE w z N rest d q::r):=by(intro k;refine go ?_;exact k)):TO cl P dr ops l w M X n K a (rE w z N rest d q::r):=
 TO.qk (λW e=>f W e.base e.q0) h g i j b m p hgo
theorem TC.lift(h:∀W,Hp w M s W->TC P w M c Q a s):TC P w M c Q a s:=⟨λW b=>(h W b).o W b⟩
theorem T.wr{G:Prop}(n:Nat){cs}{t b}{u}{g z}(c:Whole w g t cs)(d:g∉M)(e:cs.size=z)(h:G)(i:ops[n]?=some o:=by rfl)(j:o.op= .load b u:=by rfl)(m:fH P dr ops l n=true:=by decide+kernel)(p:Region.wanted o (yielded ops a.tmps)=true:=by rfl)(q:uS P b=true:=by decide+kernel)(hz:(P.info? b).map (·.size)=some z:=by decide+kernel)
 (r:a.eval u= .pointer (some ⟨g,0,none⟩):=by rfl) (v:a.put o.dst (.agg cs)=a':=by(go_simp;first|done|rfl)) (x:n+1=n':=by(simp only[Nat.reduceAdd];rfl)) {k} (hgo:G->T n' P dr ops w M X Q f (l.setIfInBounds n true) a' s:=by(intro k;refine go ?_;exact k)):T k P dr ops w M X Q (f+1) l a s:=
 ⟨(T.qf n (λt A W y=>by
  refine aD ?_;unfold execOp;simp only[j,r,Sem.run_bind,lK b (At.j (y.base.whole c d)) q (by rw [hz,e]),Result.andThen_ok,Sem.run_pure]) (hgo h) i m p v x).o⟩
theorem xY{ps:qu}{i}{q}(h:ps[i]?=some q):ps.flatten=(ps.take i).flatten++q++(ps.drop (i+1)).flatten:=by
 obtain⟨a,b⟩:=aI.1 h;rw[ox ps i 1,gw a,b];simp
theorem QI{ps:qu}{i a}{q}(h:ps[i]?=some q)(b:kj (ps.map List.length) i=a):ps.flatten.toArray.extract a (a+q.length)=q.toArray:=by
 have c:(ps.take i).flatten.length=a:=by rw[mg,b]
 apply Array.toList_inj.1;rw[Array.toList_extract];simp only[List.extract_eq_take_drop];rw[xY h,bf,List.drop_left' c,Nat.add_sub_cancel_left,List.take_left' rfl]
def UM(P:Program)(t:TypeId)(L:List Nat)(i:Nat)(row:Bool):Bool:=match P.underlying t with
 |some (.struct a)=>(match a[i]? with
  |some f=>Nat.beq (kj L i) f.offset&&(if row then uS P f.type&&(P.info? f.type).map (·.size)==L[i]? else EC P f.type&&L[i]?==some 1)
  |none=>false)
 |_=>false
theorem MZ{t}{L}{i}{row}{ps:qu}{q}(b:UM P t L i row=true)(m:ps.map List.length=L)(hv:ps[i]?=some q)(hq:(row=true/\ .agg q.toArray=v)\/(row=false/\q= [v]))(W:ay):(Instr.field t (.agg ps.flatten.toArray) i).run P W= .ok v W:=by
 unfold UM at b;cases h:P.underlying t with
 |none=>simp[h]at b
 |some d=>
  rw[h]at b;cases d<;>try (cases b;done)
  case struct o=>
   cases j:o[i]? with
   |none=>simp[j]at b
   |some f=>
    simp only[j,Bool.and_eq_true]at b;have g:kj (ps.map List.length) i=f.offset:=by rw[m];exact mb b.1
    have p:L[i]?=some q.length:=by rw[<-m,bi,hv];rfl
    have s:(isAgg f.type).run P W= .ok row W:=by
     unfold isAgg;have c:=b.2;cases row
     .simp only[Bool.false_eq_true,if_false,Bool.and_eq_true]at c;unfold EC at c;cases a:P.underlying f.type with
      |none=>simp[a]at c
      |some d=>rw[Sem.run_bind,run_underlying a W];cases d<;>simp_all
     .simp only[if_true,Bool.and_eq_true]at c;unfold uS at c;cases a:P.underlying f.type with
      |none=>simp[a]at c
      |some d=>rw[Sem.run_bind,run_underlying a W];cases d<;>simp_all
    have u:(part f.type ps.flatten.toArray f.offset).run P W= .ok v W:=by
     unfold part;rw[Sem.run_bind,s];rcases hq with⟨rfl,rfl⟩|⟨rfl,rfl⟩
     .have c:=b.2;simp only[if_true,Bool.and_eq_true,beq_iff_eq]at c;have n:(P.info? f.type).map (·.size)=some q.length:=by rw[c.2,p]
      cases k:P.info? f.type with
      |none=>simp[k]at n
      |some r=>
       have w:r.size=q.length:=by simpa[k]using n
       have x:=QI hv g;simp[sizeOf,typeInfo,k,w];have l:=aA Array.toList x;simpa using l
     .have l:ps.flatten.toArray[f.offset]?=some v:=by
       have A:f.offset<ps.flatten.length:=by
        have y:=xY hv;have z:(ps.take i).flatten.length=f.offset:=by rw[mg,g]
        rw[y];simp[z]
       have e:=qY (l₁:=(ps.take i).flatten) (l₂:= [v]++(ps.drop (i+1)).flatten) (i:=f.offset) (by rw[mg,g];exact ak _);rw[<-bf,<-xY hv,mg,g,Nat.sub_self]at e;simpa using e
      simp[l]
    unfold Instr.field;rw[Sem.run_bind,run_underlying h W];simp[j,asAgg,u]
theorem T.fc{G:Prop}(n i:Nat)(L:iT){t}{x}{ps:qu}(h:G)(b:ops[n]?=some o:=by rfl)(c:o.op= .field t x i:=by rfl)(d:fH P dr ops l n=true:=by decide+kernel)(e:Region.wanted o (yielded ops a.tmps)=true:=by rfl)
 (g:a.eval x= .agg ps.flatten.toArray:=by rfl) (hf:UM P t L i false=true:=by decide+kernel) (j:ps.map List.length=L:=by(simp[*];done)) (hv:ps[i]?=some [v]:=by rfl) (m:a.put o.dst v=a':=by(go_simp;first|done|rfl)) (p:n+1=n':=by(simp only[Nat.reduceAdd];rfl)) {k} (hgo:G->T n' P dr ops w M X Q f (l.setIfInBounds n true) a' s:=by(intro k;refine go ?_;exact k)):T k P dr ops w M X Q (f+1) l a s:=
 ⟨(T.qf n (λt _ W _=>aD (by unfold execOp;simp only[c,g,Sem.run_bind,MZ hf j hv (.inr ⟨rfl,rfl⟩) W,Result.andThen_ok,Sem.run_pure])) (hgo h) b d e m p).o⟩
theorem T.fr{G:Prop}(n i:Nat)(L:iT){t}{x}{ps:qu}{q}(h:G)(b:ops[n]?=some o:=by rfl)(c:o.op= .field t x i:=by rfl)(d:fH P dr ops l n=true:=by decide+kernel)(e:Region.wanted o (yielded ops a.tmps)=true:=by rfl)
 (g:a.eval x= .agg ps.flatten.toArray:=by rfl) (hf:UM P t L i true=true:=by decide+kernel) (j:ps.map List.length=L:=by(simp[*];done)) (hv:ps[i]?=some q:=by rfl) (hq: .agg q.toArray=v:=by first|exact Tg _ _|exact Tf _|exact rfl) (m:a.put o.dst v=a':=by(go_simp;first|done|rfl)) (p:n+1=n':=by(simp only[Nat.reduceAdd];rfl)) {k} (hgo:G->T n' P dr ops w M X Q f (l.setIfInBounds n true) a' s:=by(intro k;refine go ?_;exact k)):T k P dr ops w M X Q (f+1) l a s:=
 ⟨(T.qf n (λt _ W _=>aD (by unfold execOp;simp only[c,g,Sem.run_bind,MZ hf j hv (.inl ⟨rfl,hq⟩) W,Result.andThen_ok,Sem.run_pure])) (hgo h) b d e m p).o⟩
end
section
variable {P:Program}{dr:Bool}{ops:Array Oper}{w W W':World}{M X:List Nat}{Q:Exit->Act->World->Prop}{f n n' i j g:Nat}{l:Array Bool}{a a':Act}{v:Value}{m:Bool}{s s' t:List En}{c:Code}{o:Oper}
theorem Hp.um(h:Hp w M s W){p k:Nat}{ty}{q}(b:s[p]?=some (bl j g m (kL ty [k]) [q])):Whole W g ty q.toArray/\q.length=k:=by
 have a:=h.en _ (ah b);exact⟨Rf a.2,by simpa[bl]using a.1⟩
theorem Hp.Tr(h:Hp w M t W)(hl:leq dr X s t){p k:Nat}{ty}{q}(b:s[p]?=some (bl j g m (kL ty [k]) [q]))(c:(dr&&X.contains (j*1000))=false):Whole W g ty q.toArray:=by
 obtain⟨d,e,f,i⟩:=h.yj hl b;have a:=i 0 (ek c)
 match d,f,a with
 | [x],_,a=>simp at a;subst a;exact Rf e
theorem T.lx{G:Prop}(n p:Nat)(v:cH){b}{z}{j g c k}{m}{ty}{q}(hv:q[c]?=some v)(h:G)(d:ops[n]?=some o:=by rfl)(e:o.op= .load b z:=by rfl)(r:fH P dr ops l n=true:=by decide+kernel)(u:Region.wanted o (yielded ops a.tmps)=true:=by rfl)(x:EC P b=true:=by decide+kernel)
 (y:a.eval z= .pointer (some ⟨g,c,none⟩):=by rfl) (A:s[p]?=some (bl j g m (kL ty [k]) [q]):=by rfl) (B:(dr&&(xn X ops l n).contains (j*1000))=false:=by decide+kernel)
 (C:a.put o.dst v=a':=by(go_simp;first|done|rfl)) (D:n+1=n':=by(simp only[Nat.reduceAdd];rfl)) {i} (hgo:G->T n' P dr ops w M X Q f (l.setIfInBounds n true) a' s:=by(intro k;refine go ?_;exact k)):T i P dr ops w M X Q (f+1) l a s:=
 ⟨(T.qf n (λt E W F=>by
  refine aD ?_;have H:W.cell? ⟨g,c,none⟩=some v:=by rw[(F.Tr E A B).at_];simpa using hv
  unfold execOp;simp only[e,y,Sem.run_bind,oL W _ b H x,Result.andThen_ok,Sem.run_pure]) (hgo h) d r u C D).o⟩
theorem TO.sx{cl}{K}{G:Prop}(p:Nat){ty'}{z u}{j g c k}{t}{q q'}(h:G)(J:ops[n]?=some o:=by rfl)(F:o.op= .store ty' z u:=by rfl)(L:ip P dr ops l cl=true:=by decide+kernel)(N:Region.wanted o (yielded ops a.tmps)=true:=by rfl)(f:o.dst=none:=by rfl)
 (O:a.eval z= .pointer (some ⟨g,c,none⟩):=by rfl) (y:s[p]?=some (bl j g true (kL t [k]) [q]):=by rfl) (hv:a.eval u=v:=by rfl) (h1:v.oneCell'=true:=by rfl) (hlt:c<k:=by first|decide|assumption|omega) (hq':q.set c v=q':=by rfl)
 (Q:(!dr||(xo X n).contains (j*1000))=true:=by decide+kernel) (R:(P.info? ty').map (·.size)=some 1:=by decide+kernel) (S:s.set p (bl j g true (kL t [k]) [q'])=s':=by(simp only[List.set_cons_zero,List.set_cons_succ];rfl)) (hgo:G->K a s':=by(intro k;refine go ?_;exact k)):TO cl P dr ops l w M X n K a s:=by
 subst S hq';refine TO.of J N (by unfold gu;rw[F]) L λW H=> ?_;obtain⟨A,B⟩:=H.um y;have d:v.cells.toList= [v]:=JJ h1;have m:v.cells.size=1:=by rw[<-r5,d];rfl
 obtain⟨x,C⟩:∃x,q[c]?=some x:=⟨_,aQ af⟩
 have I:Lay W g t [q.take c,[x],q.drop (c+1)]:=by
  have e:[q.take c,[x],q.drop (c+1)].flatten=q:=by
   obtain⟨D,U⟩:=aI.1 C;simp only[List.flatten_cons,List.flatten_nil,List.append_nil];rw[<-U,List.singleton_append,<-gw D,cR]
  unfold Lay;rw[e];exact A
 have r:kj ([q.take c,[x],q.drop (c+1)].map List.length) 1=c:=by
  show((q.take c).length:: []).sum=c;rw[aO,List.sum_cons,List.sum_nil];omega
 have E:W.there g c v.cells.size:=by have:=(I.part 1 c [x] r rfl).2;rw[m];simpa using this
 have D:=I.set 1 c [x] v.cells.toList r rfl (by rw[d];rfl);unfold execOp;simp only[F,O,hv,Sem.run_bind,sG W g c ty' E (by rw [R,m]) (Er h1),Result.andThen_ok,Sem.run_pure];refine⟨_,Cw.oE y (λV=>JW (i:=0) (by subst V;simpa[bl]using Q)),H.oE y rfl rfl [q.set c v] (ci.bZ (aG g _ c W)) ⟨by simp[B],?_⟩,(Fr.oE y rfl _ (ci.bZ (aG g _ c W))).b,?_⟩
 .have e:([q.take c,[x],q.drop (c+1)].set 1 v.cells.toList).flatten= [q.set c v].flatten:=by
   rw[d];simp only[List.set_cons_succ,List.set_cons_zero,List.flatten_cons,List.flatten_nil,List.append_nil];rw[List.set_eq_take_append_cons_drop,aJ af];rfl
  show _=some (Obj.cells [q.set c v].flatten.toArray t (0,0));rw[<-e];exact D
 .rw[f];exact hgo h
theorem TO.cpy{cl}{K}{G:Prop}(p:Nat)(xs:gF){r}{C s0}{t sT e}{dL dC sL sC j g c k}{u}{q q'}(d:∀W,Hp w M s W-> ∀j v,xs[j]?=some v->W.cell? (r.add j)=some v)(h:G)
 (F:ops[n]?=some o:=by rfl) (H:o.op= .call {callee:= .builtin .copy,args:= #[C,s0],argTypes:= #[t,sT]}:=by rfl) (I:ip P dr ops l cl=true:=by decide+kernel) (J:Region.wanted o (yielded ops a.tmps)=true:=by rfl) (x:gu P o=false:=by rfl)
 (y:a.eval C= .slice (some ⟨g,c,none⟩) dL dC:=by rfl) (z:a.eval s0= .slice (some r) sL sC:=by rfl) (m:s[p]?=some (bl j g true (kL u [k]) [q]):=by rfl) (L:(!dr||(xo X n).contains (j*1000))=true:=by decide+kernel) (N:P.underlying t=some (.slice e):=by rfl) (hz:(P.info? e).map (·.size)=some 1:=by decide+kernel) (O:xs.length=Nat.min sL dL:=by first|rfl|(simp[*];done)) (D:c+xs.length<=k:=by first|decide|(simp[*];done)) (h1:∀v∈xs,v.oneCell'=true:=by(simp[Value.oneCell'];done)) (hq':q.take c++xs++q.drop (c+xs.length)=q':=by rfl)
 (Q:a.put o.dst (goInt xs.length)=a':=by(go_simp;first|done|rfl)) (R:s.set p (bl j g true (kL u [k]) [q'])=s':=by(simp only[List.set_cons_zero,List.set_cons_succ];rfl)) (hgo:G->K a' s':=by(intro k;refine go ?_;exact k)):TO cl P dr ops l w M X n K a s:=by
 subst R hq';refine TO.of F J x I λW A=> ?_;obtain⟨f,S⟩:=A.um m;have U:=run_copy_row (P:=P) W t sT o.type e g c dL dC r sL sC q.toArray u xs N hz f O (d W A) (by simp;omega) h1
 have B:(execOp a.eval o).run P W= .ok (.value (goInt xs.length)) (W.setRow g (q.take c++xs++q.drop (c+xs.length)).toArray):=by
  unfold execOp;simp only[H,resolve,invoke,builtin,Sem.run_bind,Sem.run_pure,Result.andThen_ok,List.map_toArray,List.map_cons,List.map_nil,y,z,U]
 rw[B];have E:ci [g] W (W.setRow g (q.take c++xs++q.drop (c+xs.length)).toArray):=ci.bZ (bW _ _ _);refine⟨_,Cw.oE m (λy=>JW (i:=0) (ps:= [q]) (by subst y;simpa[bl]using L)),A.oE m rfl rfl [q.take c++xs++q.drop (c+xs.length)] E ⟨by simp;omega,?_⟩,(Fr.oE m rfl _ E).b,?_⟩
 .have:=Whole.row (new:=(q.take c++xs++q.drop (c+xs.length)).toArray) f;simpa[Whole]using this
 .show K (a.put o.dst _) _;rw[Q];exact hgo h
theorem TO.cg{f}{K}{ι:Type}{C:ι->Prop}{G:ι->Nat->Prop}{vf:ι->Nat->Value}{t}{L}{ps:ι->List (List Value)}{i:ι->Nat->Act}{j:ι->Nat->List En}{m}{args}(u:∀W,Hp w M s W->Calls P m args W λr W'=> ∃x g,r= .returned (vf x g)/\W.heap.size<=g/\kL t L (ps x) W'.heap[g]?/\C x/\Below W.heap.size W W')(h:∀x g,C x->G x g)(v:ip P dr ops l f=true:=by decide+kernel)(y:ops[n]?=some o:=by rfl)(z:Region.wanted o (yielded ops a.tmps)=true:=by rfl)(d:gu P o=false:=by rfl)
 (A:∀W,(execOp a.eval o).run P W= .ok (.enter m args) W:=by(intro W;go_simp;first|done|rfl)) (D:∀x g,a.put o.dst (vf x g)=i x g:=by(intro x g;go_simp;first|done|rfl)) (E:∀x g,s++ [bl (100+n) g true (kL t L) (ps x)]=j x g:=by(intro x g;simp only[List.cons_append,List.nil_append,Nat.reduceAdd];rfl)) (hgo:∀x g,G x g->K (i x g) (j x g):=by(intro x g k;refine go ?_;exact k)):TO f P dr ops l w M X n K a s:=by
 refine TO.of y z d v λW e=> ?_;rw[A W];refine(u W e).mono λr W' ⟨x,g,F,H,p,I,q⟩=> ?_
 have c:∀k,(bl (100+n) g true (kL t L) (ps x)).B k->W.heap.size<=k/\k<W'.heap.size:=λk c=>by
  obtain rfl:k=g:=c;exact⟨H,(aT.1 p.2).1⟩
 refine⟨_,s++ [bl (100+n) g true (kL t L) (ps x)],F,λ_=>uO.push _,e.push q c p,(Fr.push e q c).b,?_⟩;show K (a.put o.dst _) _;rw[D,E];exact hgo _ _ (h _ _ I)
theorem TO.cq{cl}{K}{ι:Type}{C G:ι->Prop}{vf:ι->Value}{e:ι->Act}{f}{args}(i:∀W,Hp w M s W->Calls P f args W λr W'=> ∃x,r= .returned (vf x)/\C x/\Below W.heap.size W W')(h:∀x,C x->G x)(j:ops[n]?=some o:=by rfl)(m:ip P dr ops l cl=true:=by decide+kernel)(p:Region.wanted o (yielded ops a.tmps)=true:=by rfl)(c:gu P o=false:=by rfl)
 (q:∀W,(execOp a.eval o).run P W= .ok (.enter f args) W:=by(intro W;go_simp;first|done|rfl)) (t:∀x,a.put o.dst (vf x)=e x:=by(intro x;go_simp;first|done|rfl)) (hgo:∀x,G x->K (e x) s:=by(intro x k;refine go ?_;exact k)):TO cl P dr ops l w M X n K a s:=by
 refine TO.of j p c m λW d=> ?_;rw[q W];refine(i W d).mono λr W' ⟨x,u,v,g⟩=>⟨_,s,u,λ_=>uO.refl _ s,d.iC g,(Fr.iC d g).b,?_⟩;show K (a.put o.dst (vf x)) _;rw[t];exact hgo x (h x v)
theorem T.cvp{G:Prop}(n p i:Nat)(xs:aR){d r e}{z}{b k c}{ty}{L}{ps}(h:G)(v:ops[n]?=some o:=by rfl)(x:o.op= .convert d r z:=by rfl)(y:fH P dr ops l n=true:=by decide+kernel)(A:Region.wanted o (yielded ops a.tmps)=true:=by rfl)
 (B:a.eval z= .slice (some ⟨g,b,none⟩) k c:=by rfl) (C:s[p]?=some (bl j g m (kL ty L) ps):=by rfl) (D:(dr&&(List.range L.length).any λk=>(xn X ops l n).contains (j*1000+k))=false:=by decide+kernel) (u:ps.length=L.length:=by rfl) (h1:P.underlying d=some (.slice e):=by rfl) (E:P.underlying e=some (.int .u8):=by kernel_rfl) (F:P.underlying r=some .string:=by kernel_rfl) (H:xs.length=k:=by first|assumption|(simp[*];done)) (hf:ps[i]?=some (xs.map (Value.int .u8)):=by rfl) (I:kj (ps.map List.length) i=b:=by(simp[kj, *];done))
 (J:a.put o.dst (.string (strOfNums xs))=a':=by(go_simp;first|done|rfl)) (K:n+1=n':=by(simp only[Nat.reduceAdd];rfl)) {q} (hgo:G->T n' P dr ops w M X Q f (l.setIfInBounds n true) a' s:=by(intro k;refine go ?_;exact k)):T q P dr ops w M X Q (f+1) l a s:=
 ⟨(T.qf n (λt N W O=>by
  have R:=(O.zT N C D u).part i b _ I hf;refine aD ?_;unfold execOp;have S:=bv (P:=P) W d e h1 E g b k c xs H (λi v=>R.1 i _ (by simp[List.getD_eq_getElem?_getD,List.getElem?_eq_getElem (af:i<xs.length)])) r F;simp only[x,B,Sem.run_bind,S,Result.andThen_ok,Sem.run_pure]) (hgo h) v y A J K).o⟩
theorem T.z{G:Prop}(h:G)(hgo:G->T 0 P dr ops w M X Q f l a s:=by(intro k;refine go ?_;exact k)):T n P dr ops w M X Q f l a s:=⟨(hgo h).o⟩
theorem T.qw{G:Prop}(n:Nat)(v:cH)(h:G)(b:ops[n]?=some o:=by rfl)(c:fH P dr ops l n=true:=by decide+kernel)(d:Region.wanted o (yielded ops a.tmps)=true:=by rfl)(hq:zA P dr w M (xn X ops l n) s o a v:=by(apply zA.plain rfl;intro W;go_simp;done))(e:a.put o.dst v=a':=by(go_simp;first|done|rfl))(g:n+1=n':=by(simp only[Nat.reduceAdd];rfl)){k}(hgo:G->T n' P dr ops w M X Q f (l.setIfInBounds n true) a' s:=by(intro k;refine go ?_;exact k)):T k P dr ops w M X Q (f+1) l a s:=⟨(T.qf n hq (hgo h) b c d e g).o⟩
theorem ci.byB{w W}(h:ci [g] w W):w.grownBy W (some g):=⟨h.os,h.tape,h.output,h.size,λi a b=>h.block i a (λc=>b (by rw[ar.1 c]))⟩
theorem Hp.row{ty}{k}{xs}{z}(h:Whole w g ty (ai k xs))(hz:xs.length=z):Hp w [g] [bl 0 g true (kL ty [z]) [xs.map (.int k)]] w:=
 Hp.cons (Hp.nil _ _) ⟨by simp[bl,hz],by show w.heap[g]?=_;rw[show w.heap[g]?=_ from h];simp[ai,bl]⟩ (λ_ e=>e▸h.inside) (λ_ _ e=>by rw[show _=g from e];exact .head _) (λ_ h=>by cases h)
theorem Hp.rowOf{ty}{k}{xs}{z p:Nat}(h:Hp w M s W)(a:s[p]?=some (bl j g m (kL ty [z]) [xs.map (.int k)])):Whole W g ty (ai k xs):=by
 have:=(h.um a).1;simpa[ai]using this
end
theorem wI(t:Nat)(h:t<1000000):IntKind.i64.wrap ((t:Int)+1)=(t:Int)+1:=xG af af
theorem nN{a b}(d:a<18446744073709551616)(c:b<18446744073709551616):∃n:Nat,Hid (n=a&&&b)/\bits BinOp.and IntKind.u64 (a:Int) (b:Int)=(n:Int)/\n<18446744073709551616:=
 ⟨_,aa rfl,lz _ _ d c,Nat.and_lt_two_pow (n:=64) _ c⟩
theorem nX{a b}(c:a<18446744073709551616)(d:b<18446744073709551616):∃n:Nat,Hid (n=a^^^b)/\bits BinOp.xor IntKind.u64 (a:Int) (b:Int)=(n:Int)/\n<18446744073709551616:=
 ⟨_,aa rfl,u64_xor_nat _ _ c d,o7 (n:=64) c d⟩
theorem nA(a b:Nat):∃n:Nat,Hid (n=(a+b) %18446744073709551616)/\IntKind.u64.wrap ((a:Int)+b)=(n:Int)/\n<18446744073709551616:=
 ⟨_,aa rfl,by rw[bH];omega,fF _ an⟩
end Go.Spk
open Go.Proofs.Tryz
namespace Go.Proofs.P
def uR(m q x:Int):Int:=bits BinOp.or IntKind.u32 (x*m %4294967296) (x/q)
def Pi(a b:Int):Int:=bits .xor .u32 a b
def m7(a b:Int):Int:=(a+b) %4294967296
theorem ZU(a b:Int):bits .xor .u32 a b=Pi a b:=rfl
theorem Av(o:BinOp)(a b:Int)(h:o= .xor\/o= .or):0<=bits o .u32 a b/\bits o .u32 a b<4294967296:=by
 rcases h with rfl|rfl
 all_goals
  unfold bits;rw[qx];omega
theorem Nk(a b:Int):0<=Pi a b:=(Av .xor a b (.inl rfl)).1
theorem Nl(a b:Int):Pi a b<4294967296:=(Av .xor a b (.inl rfl)).2
theorem aah:bits BinOp.and IntKind.u64 16 31=16:=by decide+kernel
theorem aag:bits BinOp.and IntKind.u64 12 31=12:=by decide+kernel
theorem abM:bits BinOp.and IntKind.u64 8 31=8:=by decide+kernel
theorem abL:bits BinOp.and IntKind.u64 7 31=7:=by decide+kernel
theorem aa9(x:Int)(b:0<=x)(h:x<4294967296)(w:ay):
 Calls prog 198 #[.int .u32 x,.int .i64 16] w λe a=>e= .returned (.int .u32 (uR 65536 65536 x))/\a=w:=by
 have c:=aah
 go_enter func198,ntmps198
 go_wp2
 go_ret
 exact⟨rfl,rfl⟩
theorem aa8(x:Int)(b:0<=x)(h:x<4294967296)(w:ay):
 Calls prog 198 #[.int .u32 x,.int .i64 12] w λe a=>e= .returned (.int .u32 (uR 4096 1048576 x))/\a=w:=by
 have c:=aag
 go_enter func198,ntmps198
 go_wp2
 go_ret
 exact⟨rfl,rfl⟩
theorem acf(x:Int)(b:0<=x)(h:x<4294967296)(w:ay):
 Calls prog 198 #[.int .u32 x,.int .i64 8] w λe a=>e= .returned (.int .u32 (uR 256 16777216 x))/\a=w:=by
 have c:=abM
 go_enter func198,ntmps198
 go_wp2
 go_ret
 exact⟨rfl,rfl⟩
theorem ace(x:Int)(b:0<=x)(h:x<4294967296)(w:ay):
 Calls prog 198 #[.int .u32 x,.int .i64 7] w λe a=>e= .returned (.int .u32 (uR 128 33554432 x))/\a=w:=by
 have c:=abL
 go_enter func198,ntmps198
 go_wp2
 go_ret
 exact⟨rfl,rfl⟩
def qrI(ws:List Int)(a b c d:Nat):List Int:=
 let w1:=ws.set a (m7 (ix ws a) (ix ws b))
 let w2:=w1.set d (uR 65536 65536 (Pi (ix w1 d) (ix w1 a)))
 let e:=w2.set c (m7 (ix w2 c) (ix w2 d))
 let f:=e.set b (uR 4096 1048576 (Pi (ix e b) (ix e c)))
 let g:=f.set a (m7 (ix f a) (ix f b))
 let h:=g.set d (uR 256 16777216 (Pi (ix g d) (ix g a)))
 let i:=h.set c (m7 (ix h c) (ix h d))
 i.set b (uR 128 33554432 (Pi (ix i b) (ix i c)))
theorem CE(g:Nat)(ws:aR)(a b c d:Nat)(hl:ws.length=16)(t:a<16)(u:b<16)(v:c<16)(x:d<16)
 (
  w:ay) (X:Whole w g 316 (ai .u32 ws)):
  Calls prog 222 #[.pointer (some ⟨g,0,none⟩),.int .i64 a,.int .i64 b,.int .i64 c,.int .i64 d] w
   λe Y=>e= .returned (.tuple #[])/\eU w Y g 316 .u32 (qrI ws a b c d):=by
 have ex:=ZU;have y:=eU.start X;have G:=aa hl;have ia:(a:Int)<16:=af;have ib:(b:Int)<16:=af;have ic:(c:Int)<16:=af;have id:(d:Int)<16:=af;clear hl
 go_enter func222,ntmps222
 go_wp2
 have i:=y.cell b (by rw[G.o];exact u);have j:=y.cell a (by rw[G.o];exact t);have fa:=y.frozen a
 go_region
 go_wp2
 obtain⟨S,m,f,h,z,hl⟩:=y.step G.o a (m7 (ix ws a) (ix ws b));unfold m7 at f;rw[<-f];have Z:=aa h;have H:=aa hl;clear f h hl j i fa;have j:=z.cell a (by rw[H.o];exact t);have k:=z.cell d (by rw[H.o];exact x);have I:=z.frozen d;refine jE 16 al al ?_;simp only[List.take_succ_cons,List.take_zero,List.drop_succ_cons,List.drop_zero];change wpStill _ _ S.drew _ _ _
 iterate 13 still_step
 still_call (aa9 _ (Nk _ _) (Nl _ _) _)
 iterate 2 still_step
 refine wpStill_nil ?_;change wpList _ _ _ _ _ S.drew
 go_wp2
 obtain⟨W2,n,f,h,A,hl⟩:=z.step H.o d (uR 65536 65536 (Pi (ix m d) (ix m a)));rw[<-f];have S2:=aa h;have J:=aa hl;clear f h hl k j I;have k:=A.cell d (by rw[J.o];exact x);have l:=A.cell c (by rw[J.o];exact v);have K:=A.frozen c
 go_region
 go_wp2
 obtain⟨U,o,f,h,B,hl⟩:=A.step J.o c (m7 (ix n c) (ix n d));unfold m7 at f;rw[<-f];have S3:=aa h;have L:=aa hl;clear f h hl l k K;have i:=B.cell b (by rw[L.o];exact u);have l:=B.cell c (by rw[L.o];exact v);have M:=B.frozen b;refine jE 16 al al ?_;simp only[List.take_succ_cons,List.take_zero,List.drop_succ_cons,List.drop_zero];change wpStill _ _ U.drew _ _ _
 iterate 13 still_step
 still_call (aa8 _ (Nk _ _) (Nl _ _) _)
 iterate 2 still_step
 refine wpStill_nil ?_;change wpList _ _ _ _ _ U.drew
 go_wp2
 obtain⟨W4,p,f,h,C,hl⟩:=B.step L.o b (uR 4096 1048576 (Pi (ix o b) (ix o c)));rw[<-f];have S4:=aa h;have N:=aa hl;clear f h hl i l M;have i:=C.cell b (by rw[N.o];exact u);have j:=C.cell a (by rw[N.o];exact t);have fa:=C.frozen a
 go_region
 go_wp2
 obtain⟨V,q,f,h,D,hl⟩:=C.step N.o a (m7 (ix p a) (ix p b));unfold m7 at f;rw[<-f];have S5:=aa h;have O:=aa hl;clear f h hl j i fa;have j:=D.cell a (by rw[O.o];exact t);have k:=D.cell d (by rw[O.o];exact x);have I:=D.frozen d;refine jE 16 al al ?_;simp only[List.take_succ_cons,List.take_zero,List.drop_succ_cons,List.drop_zero];change wpStill _ _ V.drew _ _ _
 iterate 13 still_step
 still_call (acf _ (Nk _ _) (Nl _ _) _)
 iterate 2 still_step
 refine wpStill_nil ?_;change wpList _ _ _ _ _ V.drew
 go_wp2
 obtain⟨W6,r,f,h,E,hl⟩:=D.step O.o d (uR 256 16777216 (Pi (ix q d) (ix q a)));rw[<-f];have S6:=aa h;have P:=aa hl;clear f h hl k j I;have k:=E.cell d (by rw[P.o];exact x);have l:=E.cell c (by rw[P.o];exact v);have K:=E.frozen c
 go_region
 go_wp2
 obtain⟨W,s,f,h,F,hl⟩:=E.step P.o c (m7 (ix r c) (ix r d));unfold m7 at f;rw[<-f];have S7:=aa h;have Q:=aa hl;clear f h hl l k K;have i:=F.cell b (by rw[Q.o];exact u);have l:=F.cell c (by rw[Q.o];exact v);have M:=F.frozen b;refine jE 16 al al ?_;simp only[List.take_succ_cons,List.take_zero,List.drop_succ_cons,List.drop_zero];change wpStill _ _ W.drew _ _ _
 iterate 13 still_step
 still_call (ace _ (Nk _ _) (Nl _ _) _)
 iterate 2 still_step
 refine wpStill_nil ?_;change wpList _ _ _ _ _ W.drew
 go_wp2
 obtain⟨W8,R,f,h,U8,hl⟩:=F.step Q.o b (uR 128 33554432 (Pi (ix s b) (ix s c)));rw[<-f];have S8:=aa h;have L8:=aa hl;clear f h hl i l M
 go_end0
 refine⟨rfl,?_⟩
 have e:R=qrI ws a b c d:=by
  rw[S8.o,S7.o,S6.o,S5.o,S4.o,S3.o,S2.o,Z.o];rfl
 rw[<-e];exact U8
def xA(a b c d:Int):Int:=a+256*b+65536*c+16777216*d
theorem VQ{b0 b1 b2 b3}(d:0<=b0)(u0:b0<=255)(e:0<=b1)(u1:b1<=255)(f:0<=b2)(u2:b2<=255)(g:0<=b3)(u3:b3<=255):
 bits BinOp.or IntKind.u32 (bits BinOp.or IntKind.u32 (bits BinOp.or IntKind.u32 b0 (b1*256)) (b2*65536)) (b3*16777216)=xA b0 b1 b2 b3:=by
 obtain⟨k,rfl⟩:=au d;obtain⟨a,rfl⟩:=au e;obtain⟨b,rfl⟩:=au f;obtain⟨c,rfl⟩:=au g;have h:((a:Int)*256)=((a*256:Nat):Int):=af;have i:((b:Int)*65536)=((b*65536:Nat):Int):=af;have j:((c:Int)*16777216)=((c*16777216:Nat):Int):=af;rw[h,u32_or_nat _ _ af af,Nat.or_comm,nat_join 8 _ _ af af];rw[i,u32_or_nat _ _ af af,Nat.or_comm,nat_join 16 _ _ af af];rw[j,u32_or_nat _ _ af af,Nat.or_comm,nat_join 24 _ _ af af];unfold xA;omega
theorem BI(g a n c:Nat)(b d f h:Int)(p:4<=n)(q:n<=c)(hm:c<=maxLen)(w:ay)
 (r:w.cell? ⟨g,a,none⟩=some (.int .u8 b)) (h1:w.cell? ⟨g,a+1,none⟩=some (.int .u8 d)) (s:w.cell? ⟨g,a+2,none⟩=some (.int .u8 f)) (t:w.cell? ⟨g,a+3,none⟩=some (.int .u8 h))
 (
  i:0<=b) (u0:b<=255) (j:0<=d) (u1:d<=255) (k:0<=f) (u2:f<=255) (l:0<=h) (u3:h<=255):
  Calls prog 221 #[.slice (some ⟨g,a,none⟩) n c] w λe o=>e= .returned (.int .u32 (xA b d f h))/\ ∃m,o=w.drewN m:=by
 unfold maxLen at hm;have u:(0:Int)<n:=af;have v:(1:Int)<n:=af;have x:(2:Int)<n:=af;have y:(3:Int)<n:=af;have z:=VQ i u0 j u1 k u2 l u3
 go_enter func221,ntmps221
 go_wp2
 go_quiet (fail)
 go_wp2
 go_ret
 exact⟨rfl,_,rfl⟩
def fG:List Int:= [1634760805,857760878,2036477234,1797285236]
def RO:List Nat:= [0,4,8,12,1,5,9,13,2,6,10,14,3,7,11,15,0,5,10,15,1,6,11,12,2,7,8,13,3,4,9,14]
def Bg(i:Nat):Nat:=RO.getD i 0
theorem zV(i:Nat):Bg i<16:=by
 by_cases h:i<32
 .revert i;decide
 .have:Bg i=0:=by simp[Bg,RO,List.getD,Nat.le_of_not_lt h]
  omega
def j9:List Value:=RO.map λ(n:Nat)=>Value.int .i64 (n:Int)
theorem RP(j:Nat)(a:j<8)(w:ay):(Instr.index 320 (.agg j9.toArray) (.int .i64 (j:Int))).run prog w=
 .ok (.agg #[.int .i64 (Bg (4*j):Nat),.int .i64 (Bg (4*j+1):Nat),.int .i64 (Bg (4*j+2):Nat),.int .i64 (Bg (4*j+3):Nat)]) w:=by
 rcases(by omega:j=0\/j=1\/j=2\/j=3\/j=4\/j=5\/j=6\/j=7)with rfl|rfl|rfl|rfl|rfl|rfl|rfl|rfl<;>kernel_rfl
def Z4(l:List Int):Nat->List Int
 |0=>l
 |j+1=>qrI (Z4 l j) (Bg (4*j)) (Bg (4*j+1)) (Bg (4*j+2)) (Bg (4*j+3))
def nB(l:List Int):Nat->List Int
 |0=>l
 |k+1=>Z4 (nB l k) 8
theorem Lb(l:aR)(a b c d:Nat):(qrI l a b c d).length=l.length:=by simp[qrI]
theorem Bo(l:aR)(j:Nat):(Z4 l j).length=l.length:=by
 induction j with
 |zero=>rfl
 |succ j a=>rw[Z4,Lb,a]
theorem sZ(l:aR)(k:Nat):(nB l k).length=l.length:=by
 induction k with
 |zero=>rfl
 |succ k a=>rw[nB,Bo,a]
def ZT(a:List Int)(i:Nat):Int:=xA (ix a (4*i)) (ix a (4*i+1)) (ix a (4*i+2)) (ix a (4*i+3))
def sU(a:List Int)(o:Nat)(l:List Int):Nat->List Int
 |0=>l
 |n+1=>(sU a o l n).set (o+n) (ZT a n)
theorem lF(a:aR)(o:Nat)(l:aR)(n:Nat):(sU a o l n).length=l.length:=by
 induction n with
 |zero=>rfl
 |succ n b=>simp[sU,b]
def FF(b:List Int)(a:Int)(c:List Int):List Int:=sU c 13 ((sU b 4 (fG++List.replicate 12 0) 8).set 12 a) 3
def EA(X A:List Int)(n:Nat):Int:=m7 (ix X (n/4)) (ix A (n/4))/2^(8*(n %4)) %256
def zw(X A:List Int):Nat->List Int
 |0=>List.replicate 64 0
 |n+1=>(zw X A n).set n (EA X A n)
theorem tM(X A:aR)(n:Nat):(zw X A n).length=64:=by
 induction n with
 |zero=>rfl
 |succ n a=>simp[zw,a]
def ol(b:List Int)(a:Int)(c:List Int):List Int:=zw (nB (FF b a c) 10) (FF b a c) 64
theorem JE(b:aR)(a:Int)(c:aR):ol b a c=zw (nB (FF b a c) 10) (FF b a c) 64:=rfl
theorem uX(b:aR)(a:Int)(c:aR):(ol b a c).length=64:=tM _ _ _
theorem fL(k:IntKind)(ws:aR):(ai k ws).all (·.oneCell')=true:=by
 rw[mR];intro v b;simp[ai]at b;obtain⟨a,_,rfl⟩:=b;rfl
theorem NB(X A:aR)(i k:Nat)(a:k<4):EA X A (4*i+k)=m7 (ix X i) (ix A i)/2^(8*k) %256:=by
 unfold EA;rw[show(4*i+k)/4=i by omega,show(4*i+k) %4=k by omega]
theorem yH(h l:aR)(a:Int)(f:h.length=32)(hn:l.length=12)(u:jr h)(x:jr l)(w:ay)
 (
  t0:w.rangeAt 25 0 (fG.map (Value.int .u32))) (t1:w.rangeAt 26 0 j9):
  Calls prog 200 #[.agg (ai .u8 h),.int .u32 a,.agg (ai .u8 l)] w λe w'=>e= .returned (.agg (ai .u8 (ol h a l)))/\Below w.heap.size w w':=by
 have T0:=aa t0;have T1:=aa t1;clear t0 t1;have HK:=aa f;have HN:=aa hn;clear f hn
 go_enter func200,ntmps200
 go_wp2
 refine aU (λW=>Below w.heap.size w W/\Sz W (w.heap.size+4)/\Whole W w.heap.size 22 (ai .u8 h)/\Whole W (w.heap.size+1) 241 (ai .u8 l)/\
  Whole W (w.heap.size+1+1) 97 (ai .u8 (List.replicate 64 0))/\Whole W (w.heap.size+1+1+1) 316 (ai .u32 (List.replicate 16 0))) ?_ ?_
 .refine⟨?_,?_,?_,?_,?_,?_⟩
  .go_grown
  .exact((((show Sz w w.heap.size from rfl).alloc _).alloc _).alloc _).alloc _
  .exact(((Whole.new rfl rfl).alloc _).alloc _).alloc _
  .exact((Whole.new bj rfl).alloc _).alloc _
  .exact(Whole.new bj rfl).alloc _
  .exact Whole.new bj rfl
 intro M ⟨D,E,N,O,Q,F⟩
 have y:∀j v,(fG.map (Value.int .u32))[j]?=some v->M.drew.cell? ((⟨25,0,none⟩:Addr).add j)=some v:=by
  intro j v hv;rw[Addr.add_mid];have h1:=T0.o j v hv;have h2:=aH h1;exact(D.cell h2).trans h1
 have hc:=run_copy_row (P:=prog) M.drew 103 103 3 147 (w.heap.size+1+1+1) 0 16 16 ⟨25,0,none⟩ 4 4 (ai .u32 (List.replicate 16 0)) 316 (fG.map (Value.int .u32))
  al al F rfl y an an
 clear y
 go_region
 go_wp2
 have n:Whole (M.drew.setRow (w.heap.size+1+1+1) (List.map (Value.int .u32) fG++List.drop fG.length (ai IntKind.u32 [0,0,0,0,0,0,0,0,0,0,0,0,0,0,0,0]).toList).toArray) (w.heap.size+1+1+1) 316 (ai .u32 (fG++List.replicate 12 0)):=Whole.row F
 refine aU (λW=>Below w.heap.size w W/\Sz W (w.heap.size+4)/\Whole W w.heap.size 22 (ai .u8 h)/\Whole W (w.heap.size+1) 241 (ai .u8 l)/\
  Whole W (w.heap.size+1+1) 97 (ai .u8 (List.replicate 64 0))/\Whole W (w.heap.size+1+1+1) 316 (ai .u32 (fG++List.replicate 12 0))) ?_ ?_
 .have hO:=aZ (iq (ez M (some (w.heap.size+1+1+1)))) (bW M.drew (w.heap.size+1+1+1) (List.map (Value.int .u32) fG++List.drop fG.length (ai IntKind.u32 [0,0,0,0,0,0,0,0,0,0,0,0,0,0,0,0]).toList).toArray);refine⟨?_,?_,?_,?_,?_,n⟩
  .exact D.grown hO (by unfold Sz at E;omega) (λk f=>by injection f with f;omega)
  .exact E.drew.row _ _
  .exact N.only hO (bE af)
  .exact O.only hO (bE af)
  .exact Q.only hO (bE af)
 clear n hc F Q O N D E M;intro W1 ⟨aS,S,aV,aX,aY,n⟩
 go_loopw [20] (λi wr=> ∃k:Nat,k<=8/\i= .int .i64 k/\eU W1 wr (w.heap.size+1+1+1) 316 .u32 (sU h 4 (fG++List.replicate 12 0) k)/\Sz wr (w.heap.size+4)) (λi _=>8 -(intOf i).toNat)
 case atStart=>exact⟨0,af,rfl,eU.start n,S⟩
 case round=>
  obtain⟨k,f,rfl,U,b⟩:=hrel
  by_cases V:k<8
  .have c:=U.other aV af;have c0:=c.int (4*k) (by rw[HK.o];omega);have c1:=c.int (4*k+1) (by rw[HK.o];omega);have c2:=c.int (4*k+2) (by rw[HK.o];omega);have c3:=c.int (4*k+3) (by rw[HK.o];omega);have cs:=U.cell (4+k) (by rw[lF];simp[fG];omega);have fs:=U.frozen (4+k);have hs:=uh (P:=prog) underlying22 al w.heap.size (4*k) af (4*(k:Int)) af
   go_wp2_with (go_at_call 221;refine(BI _ _ _ _ _ _ _ _ af (ak _) (by unfold maxLen;omega) _ c0 c1 c2 c3 (u _).1 (u _).2 (u _).1 (u _).2 (u _).1 (u _).2 (u _).1 (u _).2).mono ?_;rintro e w' ⟨rfl,m,rfl⟩)
   go_roundw
   case rel=>exact⟨k+1,af,by go_num,((U.drewN m).set (4+k) _),(b.drewN m).set _ _⟩
   case measure=>simp[intOf];omega
  .obtain rfl:k=8:=af;rw[show((8:Nat):Int)=8 from rfl];have a0:=U.cell 12 (by rw[lF];decide);have a1:=U.frozen 12
   go_wp2
   have U2:=U.set 12 a;have z2:=b.set ⟨w.heap.size+1+1+1,12,none⟩ (.int .u32 a)
   go_loopw [33] (λi wr=> ∃k:Nat,k<=3/\i= .int .i64 k/\eU W1 wr (w.heap.size+1+1+1) 316 .u32 (sU l 13 ((sU h 4 (fG++List.replicate 12 0) 8).set 12 a) k)/\Sz wr (w.heap.size+4)) (λi _=>3 -(intOf i).toNat)
   case atStart=>exact⟨0,af,rfl,U2,z2⟩
   case round=>
    clear U2 z2 a0 a1 U b;obtain⟨k,f,rfl,U,b⟩:=hrel
    by_cases V:k<3
    .have c:=U.other aX af;have c0:=c.int (4*k) (by rw[HN.o];omega);have c1:=c.int (4*k+1) (by rw[HN.o];omega);have c2:=c.int (4*k+2) (by rw[HN.o];omega);have c3:=c.int (4*k+3) (by rw[HN.o];omega);have cs:=U.cell (13+k) (by rw[lF,dx,lF];simp[fG];omega);have fs:=U.frozen (13+k);have hs:=uh (P:=prog) underlying241 al (w.heap.size+1) (4*k) af (4*(k:Int)) af
     go_wp2_with (go_at_call 221;refine(BI _ _ _ _ _ _ _ _ af (ak _) (by unfold maxLen;omega) _ c0 c1 c2 c3 (x _).1 (x _).2 (x _).1 (x _).2 (x _).1 (x _).2 (x _).1 (x _).2).mono ?_;rintro e w' ⟨rfl,m,rfl⟩)
     go_roundw
     case rel=>exact⟨k+1,af,by go_num,((U.drewN m).set (13+k) _),(b.drewN m).set _ _⟩
     case measure=>simp[intOf];omega
    .obtain rfl:k=3:=af;rw[show((3:Nat):Int)=3 from rfl];have o:(sU l 13 ((sU h 4 (fG++List.replicate 12 0) 8).set 12 a) 3).length=16:=by rw[lF,dx,lF];rfl
     obtain⟨g,G⟩:=aP (sU l 13 ((sU h 4 (fG++List.replicate 12 0) 8).set 12 a) 3);rw[<-G]at U o;have a2:=aa G;clear G;have z:(prog.info? 316).map (·.size)=some (ai .u32 g).size:=by rw[ag,o];kernel_rfl
     have hb:=U.et;have HS:=aa z;have HL:=aa o;clear z o
     go_wp2_with (first
      |(refine wpList_load_row rfl 316 (.tmp 7) rfl _ rfl 316 (ai .u32 g) (0,0) _ hb underlying316 rfl HS.o ?_)
      |(refine cQ rfl 316 (.tmp 10) (.tmp 44) rfl wr.heap.size (ai .u32 g) rfl rfl 316 _ (dR _ _) HS.o (by rw[ag,HL.o];rfl) (fL _ _) ?_))
     refine aU (λW=>Below w.heap.size w W/\Sz W (w.heap.size+5)/\Whole W (w.heap.size+1+1) 97 (ai .u8 (List.replicate 64 0))/\
      Whole W (w.heap.size+1+1+1) 316 (ai .u32 g)/\Whole W wr.heap.size 316 (ai .u32 g)) ?_ ?_
     .have d:=U.below aS af (by unfold Sz at S;omega);refine⟨?_,(b.alloc _).row _ _,(((U.other aY af).alloc _).only (bW _ _ _) (bE (by unfold Sz at b;omega))),((U.et.alloc _).only (bW _ _ _) (bE (by unfold Sz at b;omega))),Whole.row (Whole.new (cs':=_) rfl rfl)⟩;exact(d.alloc d.size _).grown (bW _ _ _) (by simp;exact bu d.size) (λk f=>by injection f with f;subst f;exact d.size)
     generalize Y:wr.heap.size=gx;have ab:gx=w.heap.size+4:=by rw[<-Y];exact b
     have bc:w.heap.size+1+1+1<gx:=af;clear ab Y b U hb;intro W3 ⟨d,H,ad,aj,ao⟩
     go_loopw [45] (λi wr=> ∃k:Nat,k<=10/\i= .int .i64 k/\eU W3 wr gx 316 .u32 (nB g k)) (λi _=>10 -(intOf i).toNat)
     case atStart=>exact⟨0,af,rfl,eU.start ao⟩
     case round=>
      obtain⟨k,f,rfl,U⟩:=hrel
      by_cases V:k<10
      .obtain⟨wo,rfl⟩:∃wo:World,wo=wr:=⟨_,rfl⟩;have a3:=U.below d af (by unfold Sz at H;omega);have av:=cT T1.o a3;have HT:=aa av;clear av;have q:=sZ g k;rw[HL.o]at q;obtain⟨R,hR⟩:=aP (nB g k);rw[<-hR]at U q;have HR:=aa hR;have a4:=aa q;clear q hR
       go_wp2_with (refine wpList_load_mid rfl 320 (.global 26) rfl 26 0 rfl j9 _ HT.o underlying320 rfl al ?_)
       go_loopw [48] (λi wr=> ∃j:Nat,j<=8/\i= .int .i64 j/\eU W3 wr gx 316 .u32 (Z4 R j)) (λi _=>8 -(intOf i).toNat)
       case atStart=>exact⟨0,af,rfl,U⟩
       case round=>
        clear U;obtain⟨j,hj,rfl,U⟩:=hrel
        by_cases ax:j<8
        .have bd:=λwx=>RP j ax wx
         go_wp2_with (go_at_call 222;refine(CE _ (Z4 R j) _ _ _ _ (by rw[Bo,a4.o]) (zV _) (zV _) (zV _) (zV _) _ (U.et.alloc _)).mono ?_;rintro e w' ⟨rfl,hU⟩)
         go_roundw
         case rel=>exact⟨j+1,af,by go_num,⟨aZ (DP U.only _) hU.only,hU.et⟩⟩
         case measure=>simp[intOf];omega
        .obtain rfl:j=8:=af
         go_wp2
         go_roundw
         case rel=>exact⟨k+1,af,by go_num,by rw[nB,<-HR.o];exact U⟩
         case measure=>simp[intOf];omega
      .obtain rfl:k=10:=af;rw[show((10:Nat):Int)=10 from rfl];have r:=sZ g 10;rw[HL.o]at r;obtain⟨X,hX⟩:=aP (nB g 10);rw[<-hX]at U r;have HX:=aa hX;have a5:=aa r;have az:=U.other aj af;have aB:=U.other ad af;have I:=U.et;have J:=U.below d af (by unfold Sz at H;omega);have aC:=I.inside;clear r hX U d H ad aj ao
       go_wp2_with fail
       refine aU (λW=>Below w.heap.size w W/\Whole W (w.heap.size+1+1) 97 (ai .u8 (List.replicate 64 0))/\
        Whole W (w.heap.size+1+1+1) 316 (ai .u32 g)/\Whole W gx 316 (ai .u32 X)/\Whole W wr.heap.size 97 (ai .u8 (List.replicate 64 0))) ?_ ?_
       .exact⟨J.alloc J.size _,aB.alloc _,az.alloc _,I.alloc _,Whole.new rfl rfl⟩
       generalize a6:wr.heap.size=go at aC⊢;clear J aB az I a6;intro W5 ⟨aE,a7,a8,a9,ba⟩
       go_loopw [62] (λi wr=> ∃i':Nat,i'<=16/\i= .int .i64 i'/\eU W5 wr go 97 .u8 (zw X g (4*i'))) (λi _=>16 -(intOf i).toNat)
       case atStart=>exact⟨0,af,rfl,eU.start ba⟩
       case round=>
        obtain⟨i,hi,rfl,U⟩:=hrel
        by_cases A:i<16
        .obtain⟨wo,rfl⟩:∃wo:World,wo=wr:=⟨_,rfl⟩;have ii:(i:Int)<16:=af;have cA:=(U.other a8 af).int i (by rw[HL.o];exact A);have cX:=(U.other a9 af).int i (by rw[a5.o];exact A)
         go_wp2_with fail
         go_quiet (fail)
         go_wp2_with fail
         have U':=U.drewN nq;clear U cA cX
         go_loopw [72] (λt wr=> ∃k:Nat,k<=4/\t= .int .i64 k/\eU W5 wr go 97 .u8 (zw X g (4*i+k))) (λi _=>4 -(intOf i).toNat)
         case atStart=>exact⟨0,af,rfl,U'⟩
         case round=>
          clear U';obtain⟨k,f,rfl,U⟩:=hrel
          by_cases aF:k<4
          .have cO:=U.cell (4*i+k) (by rw[tM];omega);have fO:=U.frozen (4*i+k)
           go_wp2_with fail
           go_roundw
           case rel=>exact⟨k+1,af,by go_num,by rw[<-Nat.add_assoc,zw,NB X g i k aF];exact U.set (4*i+k) _⟩
           case measure=>simp[intOf];omega
          .obtain rfl:k=4:=af
           go_wp2
           go_roundw
           case rel=>exact⟨i+1,af,by go_num,U⟩
           case measure=>simp[intOf];omega
        .obtain rfl:i=16:=af;have aG:=U.below aE af aE.size;have aK:=U.other a7 af;have K:=U.et;have B:zw X g (4*16)=ol h a l:=by rw[HX.o,a2.o];rfl
         rw[B]at K;have s:(ol h a l).length=64:=tM _ _ _;obtain⟨Z,hZ⟩:=aP (ol h a l);rw[<-hZ]at K s;have HZ:=aa hZ;have C:(prog.info? 97).map (·.size)=some (ai .u8 Z).size:=by rw[ag,s];kernel_rfl
         have L:=aa C;have bb:=aa s;clear C s B U hZ
         go_wp2_with (first
          |(refine wpList_load_row rfl 97 (.tmp 13) rfl _ rfl 97 (ai .u8 Z) (0,0) _ K underlying97 rfl L.o ?_)
          |(refine cQ rfl 97 (.tmp 6) (.tmp 87) rfl (w.heap.size+1+1) (ai .u8 Z) rfl rfl 97 _ aK L.o (by simp[ag,bb.o]) (fL _ _) ?_))
         refine cI (im (fn:=f200) (p:=6) rfl _ _ (w.heap.size+1+1) 97 (ai .u8 Z) (0,0) _ rfl (Whole.row aK) underlying97 rfl L.o) rfl ⟨by rw[HZ.o],?_⟩;exact aG.grown (bW wr (w.heap.size+1+1) _) aG.size (λk f=>by injection f with f;omega)
attribute [irreducible] ol
def x8(a b:Int):Int:=bits .xor .u8 a b
theorem abj(a b:Int):bits .xor .u8 a b=x8 a b:=rfl
theorem acr(a b:Int):0<=x8 a b/\x8 a b<=255:=by
 unfold x8 bits;rw[jf];omega
def pK(b:List Int)(a:Int)(c:List Int)(n:Nat):Int:=ix (ol b ((a+(n/64:Nat)) %4294967296) c) (n %64)
def xI(b:List Int)(a:Int)(c:List Int)(ws:List Int):Nat->List Int
 |0=>ws
 |n+1=>(xI b a c ws n).set n (x8 (ix ws n) (pK b a c n))
theorem lu(ks ctr ns ws n):(xI ks ctr ns ws n).length=ws.length:=by
 induction n with
 |zero=>rfl
 |succ n a=>simp[xI,a]
theorem LN(c a d b)(n j:Nat)(h:n<=j):ix (xI c a d b n) j=ix b j:=by
 induction n with
 |zero=>rfl
 |succ n e=>
  unfold xI
  by_cases f:n<(xI c a d b n).length
  .rw[lW _ _ _ _ f,aq af,e af]
  .rw[List.set_eq_of_length_le af,e af]
theorem zS(ks ctr ns ws)(n i:Nat)(b:n<=ws.length)(c:i<n):ix (xI ks ctr ns ws n) i=x8 (ix ws i) (pK ks ctr ns i):=by
 induction n with
 |zero=>omega
 |succ n a=>
  unfold xI;rw[lW _ _ _ _ (by rw[lu];omega)]
  by_cases e:i=n
  .subst e;rw[aJ rfl]
  .rw[aq e,a af af]
def qt(b:List Int)(a:Int)(c:List Int)(ws:List Int):List Int:=xI b a c ws ws.length
theorem Ek(b d:aR)(a:Int)(s:bB)(n:b.length=32)(hn:d.length=12)(bk:jr b)(bn:jr d)(ao:0<=a)(R:a<4294967296)(hs:s.size<=1000000000000)(w:ay)
 (
  t0:w.rangeAt 25 0 (fG.map (Value.int .u32))) (t1:w.rangeAt 26 0 j9):
  Calls prog 172 #[.agg (ai .u8 b),.int .u32 a,.agg (ai .u8 d),.string s] w
   λe w'=>e= .returned (.string (strOfNums (qt b a d (bI s))))/\Below w.heap.size w w':=by
 have T0:=aa t0;have T1:=aa t1;clear t0 t1;have HK:=aa n;have HN:=aa hn;clear n hn;have S:=λwx:World=>gD (P:=prog) wx 9 99 5 s underlying9 underlying99 underlying5
 go_enter func172,ntmps172
 go_wp2_with fail
 have z:=grownCap_ge ((w.alloc (Obj.cells (ai IntKind.u8 b) 22)).alloc (Obj.cells (ai IntKind.u8 d) 241)) s.size 0 5;generalize grownCap ((w.alloc (Obj.cells (ai IntKind.u8 b) 22)).alloc (Obj.cells (ai IntKind.u8 d) 241)) s.size 0 5=c at z⊢;obtain⟨l,o⟩:=aP (bI s++List.replicate (c -s.size) 0)
 refine aU (λW=>Below w.heap.size w W/\Whole W w.heap.size 22 (ai .u8 b)/\Whole W (w.heap.size+1) 241 (ai .u8 d)/\
  ∃m,rY W (w.heap.size+1+1) 5 m l) ?_ ?_
 .refine⟨?_,?_,?_,?_⟩
  .go_grown
  .exact((Whole.new rfl rfl).alloc _).alloc _
  .exact(Whole.new bj rfl).alloc _
  .rw[o];exact⟨_,rY.made bj s c _⟩
 intro W0 ⟨A,B,C,m,E⟩;have F:l.length=c:=by rw[o,am,aj,eh];omega
 have HW:=aa o;have u:=aa F;clear o F S
 go_loopw [1,10] (λc1 Nt wr=> ∃j:Nat,64*j<s.size+64/\Nt= .int .i64 (64*(j:Int))/\c1= .int .u32 ((a+(j:Int)) %4294967296)/\Below w.heap.size w wr/\
  Whole wr w.heap.size 22 (ai .u8 b)/\Whole wr (w.heap.size+1) 241 (ai .u8 d)/\rY wr (w.heap.size+1+1) 5 m (xI b a d l (min (64*j) s.size)))
  (λ_ i _=>s.size -(intOf i).toNat)
 case atStart=>exact⟨0,af,rfl,by congr 1;omega,A,B,C,by rw[show min (64*0) s.size=0 by omega];exact E⟩
 case round=>
  clear A B C E W0;obtain⟨j,hj,rfl,rfl,y,p,v,g⟩:=hrel
  by_cases av:64*j<s.size
  .have U:=p.inside;have G:(prog.info? 22).map (·.size)=some (ai .u8 b).size:=by rw[ag,HK.o];kernel_rfl
   have H:(prog.info? 241).map (·.size)=some (ai .u8 d).size:=by rw[ag,HN.o];kernel_rfl
   have H1:=aa G;have H2:=aa H;clear G H
   go_wp2_with (first
    |(refine wpList_load_row rfl 22 (.tmp 4) rfl _ rfl 22 (ai .u8 b) (0,0) _ p underlying22 rfl H1.o ?_)
    |(refine wpList_load_row rfl 241 (.tmp 6) rfl _ rfl 241 (ai .u8 d) (0,0) _ v underlying241 rfl H2.o ?_)
    |fail)
   refine(yH b d _ HK.o HN.o bk bn _ (cT T0.o y) (cT T1.o y)).mono ?_;rintro e w1 ⟨rfl,h⟩;obtain⟨Z,N⟩:=aP (ol b ((a+(j:Int)) %4294967296) d);have x:Z.length=64:=by rw[N];exact uX _ _ _
   rw[<-N];have HZ:=aa N;have I:(prog.info? 97).map (·.size)=some (ai .u8 Z).size:=by rw[ag,x];kernel_rfl
   have H3:=aa I;have J:=aa x;clear I x N
   go_wp2_with (refine cQ rfl 97 (.tmp 11) (.tmp 24) rfl w1.heap.size (ai .u8 Z) rfl rfl 97 _ (dR _ _) H3.o (by rw[ag,J.o];rfl) (fL _ _) ?_)
   have f:min (64*j) s.size=64*j:=af;rw[f]at g;clear f
   refine aU (λW=>Below w.heap.size w W/\Whole W w.heap.size 22 (ai .u8 b)/\Whole W (w.heap.size+1) 241 (ai .u8 d)/\
    rY W (w.heap.size+1+1) 5 m (xI b a d l (64*j))/\Whole W w1.heap.size 97 (ai .u8 Z)) ?_ ?_
   .have O:Below w.heap.size w w1:=y.trans (h.mono y.size);have hg:=g.inside;have hz:=h.size;refine⟨(O.alloc O.size _).grown (bW _ _ _) (by simp;exact bu O.size) (λk n=>by injection n with n;subst n;exact O.size),?_,?_,?_,Whole.row (Whole.new (cs':=_) rfl rfl)⟩
    .exact((p.below h af).alloc _).only (bW _ _ _) (bE af)
    .exact((v.below h af).alloc _).only (bW _ _ _) (bE af)
    .exact((g.below h hg).alloc _).other (bW _ _ _) (bE af)
   have V:w.heap.size+1+1<w1.heap.size:=by have:=g.inside;have:=h.size;omega
   generalize w1.heap.size=gb at V⊢;clear h p v g y U w1;intro W2 ⟨K,X,Y,ab,ad⟩
   go_loopw [12] (λi wr=> ∃t:Nat,64*j<=t/\t<=s.size/\t<=64*j+64/\i= .int .i64 t/\W2.grownBy wr (some (w.heap.size+1+1))/\rY wr (w.heap.size+1+1) 5 m (xI b a d l t)) (λi _=>s.size -(intOf i).toNat)
   case atStart=>exact⟨64*j,af,af,af,by go_num,ez _ _,ab⟩
   case round=>
    obtain⟨t,ax,az,aB,rfl,L,Q⟩:=hrel
    by_cases hc:t<64*j+64/\t<s.size
    .obtain⟨R,aC⟩:=hc;have q:(xI b a d l t).length=c:=by rw[lu,u.o]
     have cO:=Q.cell t (by rw[q];omega);rw[LN _ _ _ _ _ _ (ak t)]at cO;have fO:=Q.frozen t (by rw[q];omega);have cB:=(ad.only L (bE af)).int (t -64*j) (by rw[J.o];omega);have ex:=abj;have aE:=aa q;have i1:(0:Int)<=(t:Int) -64*(j:Int):=af;have i2:(t:Int) -64*(j:Int)<64:=af;have i3:(t:Int)<s.size:=af;have i4:((t:Int) -64*(j:Int)).toNat=t -64*j:=af;clear q
     have M:x8 (ix l t) (ix Z (t -64*j))=x8 (ix l t) (pK b a d t):=by
      unfold pK;rw[show t/64=j by omega,show t %64=t -64*j by omega,<-HZ.o]
     have al:=aa M;clear M
     go_wp2_with fail
     all_goals
      go_region
      go_wp2_with fail
      go_roundw
      case rel=>exact⟨t+1,af,af,af,by go_num,aZ (iq L) (aY _ rfl _),by rw[xI,<-al.o];exact Q.drew.set t _⟩
      case measure=>simp[intOf];omega
    .have ht:t=min (64*(j+1)) s.size:=af;have an:=K.grown L K.size (λk n=>by injection n with n;omega)
     go_wp2_with fail
     all_goals
      go_roundw
      case rel=>
       refine⟨j+1,af,by go_num,by congr 1;omega,an,X.only L (bE af),Y.only L (bE af),by rw[<-ht];exact Q⟩
      case measure=>simp[intOf];omega
  .have f:min (64*j) s.size=s.size:=af;rw[f]at g
   have r:=λD hD=>bv (P:=prog) wr 99 5 underlying99 underlying5 (w.heap.size+1+1) 0 s.size c (qt b a d (bI s)) (by rw[qt,lu,aj]) (λi hi=>by
    rw[aW,g.cell i (by rw[lu,u.o];omega)];have e1:=zS b a d l s.size i (by rw[u.o];omega) hi;have e2:=zS b a d (bI s) (bI s).length i (ak _) (by rw[aj];exact hi);have e3:ix l i=ix (bI s) i:=by rw[HW.o,jk _ _ _ (by rw[aj];exact hi)]
    rw[e1,e3,<-e2]
    rfl) D hD
   have hr:=r 9 underlying9;clear r f
   go_wp2
   go_ret
   exact⟨rfl,y⟩
theorem Ty(ks ctr ns ws):qt ks ctr ns ws=(List.range ws.length).map (λn=>x8 (ix ws n) (pK ks ctr ns n)):=by
 unfold qt;refine sv (by rw[lu];simp) λi a=> ?_;rw[lu]at a;rw[zS _ _ _ _ _ _ (ak _) a];simp[ix,List.getD,a]
theorem hI(ks ctr ns ws):(qt ks ctr ns ws).length=ws.length:=by unfold qt;exact lu _ _ _ _ _
theorem Mt(ks ctr ns ws)(i:Nat)(a:i<ws.length):ix (qt ks ctr ns ws) i=x8 (ix ws i) (pK ks ctr ns i):=by
 unfold qt;exact zS _ _ _ _ _ _ (ak _) a
attribute [irreducible] qt
def Xm(ws:List Int):Prop:= ∀i,0<=ix ws i/\ix ws i<4294967296
theorem Xm.set{ws}(h:Xm ws)(i:Nat)(v:Int)(a:0<=v)(h1:v<4294967296):Xm (ws.set i v):=by
 intro j
 by_cases b:i<ws.length
 .rw[lW _ _ _ _ b];split
  .exact⟨a,h1⟩
  .exact h j
 .rw[List.set_eq_of_length_le af];exact h j
theorem MW(m q x:Int):0<=uR m q x/\uR m q x<4294967296:=Av .or _ _ (.inr rfl)
theorem FU(a b:Int):0<=m7 a b/\m7 a b<4294967296:=by unfold m7;omega
def dq(l:List Int)(x y z u:Nat)(m q:Int):List Int:=
 let w1:=l.set x (m7 (ix l x) (ix l y));w1.set z (uR m q (Pi (ix w1 z) (ix w1 u)))
def rq(ws:List Int)(a b c d:Nat)(n:Nat):List Int:=
 match n with
 |0=>ws
 |1=>dq ws a b d a 65536 65536
 |2=>dq (dq ws a b d a 65536 65536) c d b c 4096 1048576
 |3=>dq (dq (dq ws a b d a 65536 65536) c d b c 4096 1048576) a b d a 256 16777216
 |_=>dq (dq (dq (dq ws a b d a 65536 65536) c d b c 4096 1048576) a b d a 256 16777216) c d b c 128 33554432
theorem Xm.rq{ws}(h:Xm ws)(a b c d:Nat):Xm (rq ws a b c d 4):=by
 have s:=λ(l:List Int) (e:Xm l) (i j k:Nat)=>e.set i (m7 (ix l j) (ix l k)) (FU _ _).1 (FU _ _).2;have r:=λ(l:List Int) (e:Xm l) (i:Nat) (m q x:Int)=>e.set i (uR m q x) (MW _ _ _).1 (MW _ _ _).2;exact r _ (s _ (r _ (s _ (r _ (s _ (r _ (s _ h _ _ _) _ _ _ _) _ _ _) _ _ _ _) _ _ _) _ _ _ _) _ _ _) _ _ _ _
theorem Rg(X A:aR)(n:Nat):∀b∈zw X A n,0<=b/\b<=255:=by
 induction n with
 |zero=>intro b a;simp[zw]at a;subst a;omega
 |succ n c=>
  intro b a;unfold zw at a;rcases jc a with h|h
  .exact c b h
  .subst h;unfold EA;omega
theorem Aw(a:aR)(c:Int)(d:aR):∀b∈ol a c d,0<=b/\b<=255:=by
 rw[JE];exact Rg _ _ _
open Go.Extern.Stop Go.Stop Go.Extern
theorem rG(v:cH)(w:ay):(Extern.ReflectliteType.typeOf #[.iface 356 v]).run prog w= .ok (.iface 175 (.agg #[.pointer (some ⟨30,356,none⟩)])) w:=al
def pZ:Array Value->Sem Value:=Extern.ReflectliteType.method λt=>do Go.Extern.Rtype.noPackHeld "Comparable" t;pure (.bool (<-typeInfo t).comparable)
theorem lH(w:ay):(pZ #[.agg #[.pointer (some ⟨30,356,none⟩)]]).run prog w= .ok (.bool true) w:=al
theorem gf(v:cH)(w:ay):(Go.method 485 175 v "Comparable").run prog w= .ok (273,v) w:=al
theorem pH(v:cH)(w:ay):(Go.method 485 82 v "Unwrap").run prog w= .ok (266,v) w:=al
theorem yf:(prog.info? 356).map (·.comparable)=some true:=al
theorem yg:(prog.info? 374).map (·.size)=some 1:=al
theorem Hz(v:cH)(a:fg)(w:ay):(Instr.typeAssert (.iface 356 v) a 177 true).run prog w= .ok (.tuple #[.nilIface,.bool false]) w:=run_typeAssert_lacksB underlying177 al al v a w
theorem rL(v:cH)(a:fg)(w:ay):(Instr.typeAssert (.iface 356 v) a 180 true).run prog w= .ok (.tuple #[.nilIface,.bool false]) w:=run_typeAssert_lacksB underlying180 al al v a w
theorem qg(v:cH)(a:fg)(w:ay):(Instr.typeAssert (.iface 356 v) a 181 true).run prog w= .ok (.tuple #[.nilIface,.bool false]) w:=run_typeAssert_lacksB underlying181 al al v a w
theorem MD(v:cH)(a:fg)(w:ay):(Instr.typeAssert (.iface 82 v) a 177 true).run prog w= .ok (.tuple #[.nilIface,.bool false]) w:=run_typeAssert_lacksB underlying177 al al v a w
theorem su(v:cH)(a:fg)(w:ay):(Instr.typeAssert (.iface 82 v) a 180 true).run prog w= .ok (.tuple #[.iface 82 v,.bool true]) w:=run_typeAssert_hasB underlying180 al v a w
theorem U9(a:Addr)(w:ay):
 Calls prog 21 #[.iface 356 (.pointer (some a)),.iface 356 (.pointer (some a))] w λe c=>e= .returned (.bool true)/\c=w:=by
 obtain⟨i,d,b⟩:=bN.1 yf;obtain⟨j,f,g⟩:=bN.1 yg;have l:= @bJ prog 45 _ Extern.ReflectliteType.typeOf func45 al al al al;have h:= @bJ prog 273 _ pZ func273 al al al al;have m:=rG;have n:=lH;have o:=gf;have k:=run_eql_iface_ptr_same (P:=prog) w a underlying27 underlying356 d b f
 go_enter func21,ntmps21
 go_wp2
 refine gO 1 ?_;rw[dX]
 go_wp2
 go_ret
 exact⟨rfl,rfl⟩
theorem oy(b:Addr)(w:ay):
 Calls prog 21 #[.nilIface,.iface 356 (.pointer (some b))] w λe a=>e= .returned (.bool false)/\a=w:=by
 have c:=run_eql_iface_nil_left (P:=prog) w 356 (.pointer (some b)) underlying27
 go_enter func21,ntmps21
 go_wp2
 go_ret
 exact⟨rfl,rfl⟩
theorem Ra(a b:Addr)(g h:gJ)(k l:fg)(w:ay)(d:a≠b)(m:w.heap[a.block]?=some (.cells g k (0,0)))(n:w.heap[b.block]?=some (.cells h l (0,0))):
 Calls prog 21 #[.iface 356 (.pointer (some a)),.iface 356 (.pointer (some b))] w λe o=>e= .returned (.bool false)/\o=w:=by
 obtain⟨i,p,c⟩:=bN.1 yf;obtain⟨j,q,f⟩:=bN.1 yg;have t:= @bJ prog 45 _ Extern.ReflectliteType.typeOf func45 al al al al;have r:= @bJ prog 273 _ pZ func273 al al al al;have u:=rG;have v:=lH;have x:=gf;have y:=Hz;have z:=rL;have A:=qg;have s:=run_eql_iface_ptr_other (P:=prog) w underlying27 underlying356 p c q (by rw[f];decide) d m n
 go_enter func21,ntmps21
 go_wp2
 refine gO 1 ?_;rw[dX]
 go_wp2
 go_ret
 exact⟨rfl,rfl⟩
theorem Cr(c po:Nat)(b:Addr)(w:ay)(h1:w.cell? ⟨c,po+1,none⟩=some (.iface 356 (.pointer (some b)))):
 Calls prog 21 #[.iface 82 (.pointer (some ⟨c,po,none⟩)),.iface 356 (.pointer (some b))] w λe d=>e= .returned (.bool true)/\d=w:=by
 obtain⟨i,f,a⟩:=bN.1 yf;obtain⟨j,g,h⟩:=bN.1 yg;have n:= @bJ prog 45 _ Extern.ReflectliteType.typeOf func45 al al al al;have k:= @bJ prog 273 _ pZ func273 al al al al;have o:=rG;have p:=lH;have q:=gf;have r:=Hz;have s:=rL;have t:=qg;have nW:=MD;have u:=su;have v:=pH;have l:=run_eql_iface_ptr_same (P:=prog) w b underlying27 underlying356 f a g;have m:=run_eql_iface_types (P:=prog) 82 356 (.pointer (some ⟨c,po,none⟩)) (.pointer (some b)) underlying27 an w
 go_enter func21,ntmps21
 go_wp2
 refine gO 2 ?_;rw[dX]
 go_wp2
 rw[dX]
 go_wp2
 go_ret
 exact⟨rfl,rfl⟩
theorem AU(d po:Nat)(b a:Addr)(h k:gJ)(l m:fg)(w:ay)(h1:w.cell? ⟨d,po+1,none⟩=some (.iface 356 (.pointer (some a))))(f:a≠b)(n:w.heap[a.block]?=some (.cells h l (0,0)))(o:w.heap[b.block]?=some (.cells k m (0,0))):
 Calls prog 21 #[.iface 82 (.pointer (some ⟨d,po,none⟩)),.iface 356 (.pointer (some b))] w λe p=>e= .returned (.bool false)/\p=w:=by
 obtain⟨i,q,c⟩:=bN.1 yf;obtain⟨j,r,g⟩:=bN.1 yg;have v:= @bJ prog 45 _ Extern.ReflectliteType.typeOf func45 al al al al;have s:= @bJ prog 273 _ pZ func273 al al al al;have x:=rG;have y:=lH;have z:=gf;have A:=Hz;have B:=rL;have C:=qg;have nW:=MD;have D:=su;have E:=pH;have t:=run_eql_iface_ptr_other (P:=prog) w underlying27 underlying356 q c r (by rw[g];decide) f n o;have u:=run_eql_iface_types (P:=prog) 82 356 (.pointer (some ⟨d,po,none⟩)) (.pointer (some b)) underlying27 an w
 go_enter func21,ntmps21
 go_wp2
 refine gO 2 ?_;rw[dX]
 go_wp2
 rw[dX]
 go_wp2
 go_ret
 exact⟨rfl,rfl⟩
end Go.Proofs.P
namespace Go.Spk
def lS:Nat:=7237005577332262213973186563042994240857116359379907606001950938285454250989
def gq(n k:Nat):Nat:=n/2^(32*k) %4294967296
def eH(f g:Nat->Nat)(m k:Nat):List Int:=(List.range m).map λi=>((if i<k then f i else g i:Nat):Int)
theorem du(f g:Nat->Nat)(m k:Nat):(eH f g m k).length=m:=by simp[eH]
theorem mo{f g}{m k i}(h:i<m):ix (eH f g m k) i=((if i<k then f i else g i:Nat):Int):=by
 simp[ix,eH,h]
theorem jV{f g}{m k}(h:k<m):(eH f g m k).set k ((f k:Nat):Int)=eH f g m (k+1):=by
 apply nU
 .simp[eH]
 .intro i b c;simp only[eH,List.getElem_set,List.getElem_map,List.getElem_range]
  by_cases e:k=i
  .subst e;simp
  .rw[aq e]
   by_cases a:i<k
   .rw[aJ a,aJ af]
   .rw[aq a,aq af]
theorem jN{f g a b}{m k k'}(h:∀i,i<m->(if i<k then f i else g i)=(if i<k' then a i else b i)):eH f g m k=eH a b m k':=by
 unfold eH;apply nO;intro i c;rw[h i (List.mem_range.1 c)]
def pg(m n:Nat):List Int:=eH (gq n) (gq n) m m
theorem y8(m n:Nat):(pg m n).length=m:=du _ _ _ _
theorem ME{m n i}(h:i<m):ix (pg m n) i=((gq n i:Nat):Int):=by unfold pg;rw[mo h,aJ h]
theorem Eg{f}{n m}:eH f (gq n) m 0=pg m n:=jN λi a=>by rw[aq af,aJ a]
theorem BE{g}{n m}:eH (gq n) g m m=pg m n:=jN λi a=>by rw[aJ a,aJ a]
theorem ji(n k:Nat):gq n k<4294967296:=fF _ an
theorem Bl(k:Nat):2^(32*(k+1))=2^(32*k)*4294967296:=by grind
theorem wu(n k:Nat):n/2^(32*(k+1))=n/2^(32*k)/4294967296:=by rw[Bl,bQ]
theorem gK(n k:Nat):n/2^(32*k)=n/2^(32*(k+1))*4294967296+gq n k:=by
 rw[wu];unfold gq;omega
def Yt(n b:Nat):Nat->Nat
 |0=>b
 |k+1=>gq n k/2147483648
theorem JO(n b:Nat)(a:b<=1)(k:Nat):Yt n b k<=1:=by
 cases k with
 |zero=>exact a
 |succ k=>have:=ji n k;show gq n k/2147483648<=1;omega
theorem Uz(n b:Nat)(a:b<=1)(k:Nat):(2*n+b)/2^(32*k)=2*(n/2^(32*k))+Yt n b k:=by
 induction k with
 |zero=>simp[Yt]
 |succ k c=>
  have d:=JO n b a k;have e:=ji n k;rw[wu,c,gK n k];show _=2*_+gq n k/2147483648;omega
theorem Uy(n b:Nat)(a:b<=1)(k:Nat):gq (2*n+b) k=2*gq n k %4294967296+Yt n b k:=by
 have c:=JO n b a k;have d:=ji n k;have e:=Uz n b a k;have f:=gK n k;unfold gq at*;omega
def Ui(n o:Nat):Nat->Nat
 |0=>0
 |k+1=>if gq n k<gq o k+Ui n o k then 1 else 0
theorem JG(n o k:Nat):Ui n o k<=1:=by
 cases k with
 |zero=>exact ce _
 |succ k=>show(if _ then 1 else 0)<=1;split<;>omega
theorem WD{n o}(h:o<=n)(k:Nat):n/2^(32*k)=(n -o)/2^(32*k)+o/2^(32*k)+Ui n o k:=by
 induction k with
 |zero=>simp[Ui];omega
 |succ k a=>
  have b:=JG n o k;have c:=ji n k;have d:=ji o k;have e:=ji (n -o) k;have f:=gK n k;have g:=gK o k;have i:=gK (n -o) k;show _=_+_+(if _ then 1 else 0)
  split<;>omega
theorem WC{n o}(h:o<=n)(k:Nat):gq (n -o) k=(gq n k+8589934592 -gq o k -Ui n o k) %4294967296:=by
 have a:=JG n o k;have b:=ji n k;have c:=ji o k;have d:=ji (n -o) k;have e:=gK n k;have f:=gK o k;have g:=gK (n -o) k;have i:=WD h k;omega
theorem aaN{n o k}(h:n/2^(32*(k+1))=o/2^(32*(k+1)))(b:gq n k≠gq o k):(n<o)↔gq n k<gq o k:=by
 have d:=gK n k;have e:=gK o k;constructor
 .intro a;have:n/2^(32*k)<=o/2^(32*k):=Nat.div_le_div_right (fI a);omega
 .intro a
  by_cases c:n<o
  .exact c
  .have:o/2^(32*k)<=n/2^(32*k):=Nat.div_le_div_right af;omega
theorem UC{n o k}(h:n/2^(32*(k+1))=o/2^(32*(k+1)))(he:gq n k=gq o k):n/2^(32*k)=o/2^(32*k):=by
 rw[gK n k,gK o k,h,he]
def CH(n:Nat):Nat:=if n<lS then n else n -lS
theorem eU.abe{w W}{g}{t}{k}{ws}(h:eU w W g t k ws)(i:Nat)(u v:Int):eU w ((W.setCell ⟨g,i,none⟩ (.int k u)).setCell ⟨g,i,none⟩ (.int k v)) g t k (ws.set i v):=by
 have:=(h.set i u).set i v;rwa[List.set_set]at this
theorem ND(a:aR)(h:a.length=5):0<=ix (iz a 5) 0/\ix (iz a 5) 0<2251799813685248:=by
 obtain⟨b,c,d,f,g,rfl⟩:=qa h;have e:ix (iz [b,c,d,f,g] 5) 0=(b+0) %2251799813685248:=rfl;rw[e];omega
end Go.Spk
namespace Go.Proofs.P
section
variable {d:Tmp}{x y:Operand}{ty:TypeId}{pos:String}{after:Array Edge}{gd:Option (Nat×Bool)}{a:Go.Act}{w:World}{K:Go.Act->World->Prop}{Q:Exit->Go.Act->World->Prop}
theorem li(b:jQ w (a.eval x) 5):Oper.wp prog ⟨some d,.load 50 x,ty,pos,after,gd⟩ a w K Q=K (a.put (some d) (jx w (a.eval x) 5)) w:=iS underlying50 rfl al b
theorem lm(b:jQ w (a.eval x) 5)(c:mZ 5 (a.eval y)):Oper.wp prog ⟨none,.store 50 x y,ty,pos,after,gd⟩ a w K Q=K (a.put none undef) (w.setCells (lY (a.eval x)) (lZ (a.eval x)) (a.eval y).cells.toList):=lj al b c
end
attribute [local go_sem ↓] li lm
attribute [local go_sem] cr cD
theorem sW:(prog.info? 50).map (·.size)=some 5:=al
theorem LX(x:Int)(a:0<=x)(h1:x<18446744073709551616):bits BinOp.and IntKind.u64 x 2251799813685247=x %2251799813685248:=by
 obtain⟨n,rfl⟩:=au a;rw[show(2251799813685247:Int)=((2251799813685247:Nat):Int)from rfl,lz _ _ af af];have:=nZ n 51;rw[show 2^51 -1=2251799813685247 from rfl,show 2^51=2251799813685248 from rfl]at this;rw[this];omega
theorem lE(a:aR)(hl:a.length=5)(B:∀i,0<=ix a i/\ix a i<9223372036854775808)(w:ay):
 Calls prog 55 #[.agg (ai .u64 a)] w λe E=>e= .returned (.agg (ai .u64 (bU a)))/\Below w.heap.size w E:=by
 have r:=aa hl;have h:=aa B;clear hl B
 go_enter func55,ntmps55
 go_wp2_with fail
 refine aU (λW=>Below w.heap.size w W/\Whole W w.heap.size 50 (ai .u64 a)/\Whole W (w.heap.size+1) 50 (ai .u64 [0,0,0,0,0])) ⟨by go_grown,(Whole.new rfl rfl).alloc _,Whole.new bj rfl⟩ ?_;intro F ⟨j,l,n⟩;have o:=aa j;have s:=aa l;have t:=aa n;clear j l n
 go_loopw [3,5] (λc i wr=> ∃k:Nat,k<=5/\i= .int .i64 k/\c= .int .u64 (dG a k)/\eU F wr w.heap.size 50 .u64 (iz a k)) (λ_ i _=>5 -(intOf i).toNat)
 case atStart=>exact⟨0,af,rfl,rfl,eU.start s.o⟩
 case round=>
  obtain⟨k,u,rfl,rfl,U⟩:=hrel;have p:(iz a k).length=5:=by rw[qM,r.o]
  have g:=aa U;have d:=aa p;clear U p;have v:=L6 a h.o k;obtain⟨G,H⟩:=v
  by_cases I:k<5
  .have O:(k:Int)<5:=af;have J:=g.o.cell k (by rw[d.o];exact I);rw[L7 a k (by rw[r.o];omega) k (ak _)]at J;have P:=g.o.frozen k;obtain⟨K,L⟩:=h.o k;have y:=aa (show dG a (k+1)=(ix a k+dG a k)/2251799813685248 from rfl);have z:=aa (show iz a (k+1)=(iz a k).set k ((ix a k+dG a k) %2251799813685248)from rfl);generalize dG a k=c at*;generalize ix a k=x at*;have C:=LX (x+c) af af
   go_wp2_with fail
   go_roundw
   case rel=>exact⟨k+1,af,by go_num,by rw[y.o],by rw[z.o];exact(g.o.abe k _ _)⟩
   case measure=>simp[intOf];omega
  .obtain rfl:k=5:=af;have c0:=g.o.cell 0 (by rw[d.o];decide);have Q:=g.o.frozen 0;obtain⟨k0,k1⟩:=ND a r.o;have f:bU a=(iz a 5).set 0 (ix (iz a 5) 0+dG a 5*19):=rfl;have b:=g.o.set 0 (ix (iz a 5) 0+dG a 5*19);rw[<-f]at b;generalize dG a 5=c at*;generalize ix (iz a 5) 0=x at*;have A:=b.other t.o af;have q:(bU a).length=5:=by rw[f,dx,d.o]
   have R:=(At.j b.et).R (m:=5) (by rw[ag,q]);have S:=(At.j A).R (m:=5) (by rw[ag];rfl);have V:=(At.j b.et).row (m:=5) (by rw[ag,q]);have X:=bY .u64 (bU a) 5 q;have M:=aa A;have N:=aa q;have D:=aa (b.below o.o (ak _) o.o.size);clear f b q A
   go_wp2_with fail
   refine ej rfl underlying50 rfl sW (w.heap.size+1) (ai .u64 (bU a)) _ rfl rfl M.o (by rw[ag];rfl) (by rw[ag,N.o]) ⟨rfl,?_⟩;exact D.o.grown (aG _ _ _ _) D.o.size (λk u=>by injection u with u;omega)
def Cc(a b:List Int):Nat->List Int
 |0=>a
 |k+1=>(Cc a b k).set k (ix a k+ix b k)
theorem yF(a b:aR)(k:Nat):(Cc a b k).length=a.length:=by
 induction k with
 |zero=>rfl
 |succ k c=>rw[Cc,dx,c]
theorem TN(a b:aR)(k:Nat)(d:k<=a.length)(j:Nat)(e:k<=j):ix (Cc a b k) j=ix a j:=by
 induction k with
 |zero=>rfl
 |succ k c=>rw[Cc,lW _ _ _ _ (by rw[yF];omega),aq af,c af af]
theorem Pz{a b}(h:a.length=5):Cc a b 5=o8 a b:=by
 obtain⟨c,d,e,f,g,rfl⟩:=qa h
 rfl
theorem TM{a b}{x y}(c:Fe a x)(d:Fe b y)(i:Nat):0<=ix (o8 a b) i/\ix (o8 a b) i<9223372036854775808:=by
 match i with
 |0=>have:=c.vX 0;have:=c.hi 0;have:=d.vX 0;have:=d.hi 0;show 0<=ix a 0+ix b 0/\ix a 0+ix b 0<_;omega
 |1=>have:=c.vX 1;have:=c.hi 1;have:=d.vX 1;have:=d.hi 1;show 0<=ix a 1+ix b 1/\ix a 1+ix b 1<_;omega
 |2=>have:=c.vX 2;have:=c.hi 2;have:=d.vX 2;have:=d.hi 2;show 0<=ix a 2+ix b 2/\ix a 2+ix b 2<_;omega
 |3=>have:=c.vX 3;have:=c.hi 3;have:=d.vX 3;have:=d.hi 3;show 0<=ix a 3+ix b 3/\ix a 3+ix b 3<_;omega
 |4=>have:=c.vX 4;have:=c.hi 4;have:=d.vX 4;have:=d.hi 4;show 0<=ix a 4+ix b 4/\ix a 4+ix b 4<_;omega
 |n+5=>exact⟨by simp[ix,o8],by simp[ix,o8]⟩
def Ai(c:List Int)(w:World)(e:Ending)(a:World):Prop:=e= .returned (.agg (ai .u64 c))/\Below w.heap.size w a
theorem AG{a b:aR}{x y:Nat}(G:Fe a x)(H:Fe b y)(w:ay):
 Calls prog 28 #[.agg (ai .u64 a),.agg (ai .u64 b)] w (Ai (bU (o8 a b)) w):=by
 have c:=aa G;have h:=aa H;clear G H
 go_enter func28,ntmps28
 go_wp2_with fail
 refine aU (λW=>Below w.heap.size w W/\Whole W w.heap.size 50 (ai .u64 a)/\Whole W (w.heap.size+1) 50 (ai .u64 b)/\Whole W (w.heap.size+2) 50 (ai .u64 [0,0,0,0,0])) ⟨by go_grown,((Whole.new rfl rfl).alloc _).alloc _,(Whole.new bj rfl).alloc _,Whole.new bj rfl⟩ ?_;intro J ⟨j,l,n,o⟩;have p:=aa j;have u:=aa l;have v:=aa n;have z:=aa o;clear j l n o
 go_loopw [6] (λi wr=> ∃k:Nat,k<=5/\i= .int .i64 k/\eU J wr w.heap.size 50 .u64 (Cc a b k)) (λi _=>5 -(intOf i).toNat)
 case atStart=>exact⟨0,af,rfl,eU.start u.o⟩
 case round=>
  obtain⟨k,A,rfl,U⟩:=hrel;have q:=aa U;have B:=aa (by rw[yF,c.o.len]:(Cc a b k).length=5);clear U
  by_cases I:k<5
  .have M:(k:Int)<5:=af;have K:=q.o.cell k (by rw[B.o];exact I);rw[TN a b k (by rw[c.o.len];omega) k (ak _)]at K;have N:=q.o.frozen k;have O:=(q.o.other v.o af).int k (by rw[h.o.len];exact I);have P:=c.o.lo k;have Q:=c.o.hi k;have R:=h.o.lo k;have S:=h.o.hi k;have L:=aa (show Cc a b (k+1)=(Cc a b k).set k (ix a k+ix b k)from rfl);generalize ix a k=x at*;generalize ix b k=y at*;have V:IntKind.u64.wrap (x+y)=x+y:=by rw[bH];omega
   go_wp2_with fail
   go_region
   all_goals
    go_wp2_with fail
    go_roundw
    case rel=>exact⟨k+1,af,by go_num,by rw[L.o];exact(q.o.set k _).drew⟩
    case measure=>simp[intOf];omega
  .obtain rfl:k=5:=af;have g:=q.o;rw[Pz c.o.len]at g;have C:(o8 a b).length=5:=rfl;have X:=(At.j g.et).R (m:=5) (by rw[ag,C]);have Y:=(At.j g.et).row (m:=5) (by rw[ag,C]);have r:=aa (g.below p.o (ak _) p.o.size);have s:=aa (g.other z.o af);clear g C
   go_wp2_with fail
   refine(lE (o8 a b) rfl (TM c.o h.o) _).mono ?_;rintro e w2 ⟨rfl,d⟩;have D:=s.o.below d s.o.inside;have Z:=(At.j D).R (m:=5) (by rw[ag];rfl);have f:=tu c.o h.o;have ro:=bY .u64 (bU (o8 a b)) 5 f.len;have E:=aa f;have t:=aa (r.o.trans (d.mono r.o.size));have F:=aa D;clear d D f
   go_wp2_with fail
   refine ej rfl underlying50 rfl sW (w.heap.size+2) (ai .u64 (bU (o8 a b))) _ rfl rfl F.o (by rw[ag];rfl) (by rw[ag,E.o.len]) ⟨rfl,?_⟩;exact t.o.grown (aG _ _ _ _) t.o.size (λk A=>by injection A with A;omega)
end Go.Proofs.P
namespace Go.Proofs.P
attribute [local go_sem ↓] li lm
attribute [local go_sem] cr cD
def uj(a:List Int):Nat->List Int
 |0=>a.set 0 (ix a 0+4503599627370458)
 |k+1=>(uj a k).set (k+1) (ix a (k+1)+4503599627370494)
theorem zh(a:aR)(k:Nat):(uj a k).length=a.length:=by
 induction k with
 |zero=>rw[uj,dx]
 |succ k b=>rw[uj,dx,b]
theorem Wx(a:aR)(k:Nat)(c:k<a.length)(j:Nat)(d:k<j):ix (uj a k) j=ix a j:=by
 induction k with
 |zero=>rw[uj,lW _ _ _ _ af,aq af]
 |succ k b=>rw[uj,lW _ _ _ _ (by rw[zh];omega),aq af,b af af]
def CP(s d:List Int):Nat->List Int
 |0=>s
 |k+1=>(CP s d k).set k (ix s k -ix d k)
theorem zi(s d:aR)(k:Nat):(CP s d k).length=s.length:=by
 induction k with
 |zero=>rfl
 |succ k a=>rw[CP,dx,a]
theorem Wz(s d:aR)(k:Nat)(b:k<=s.length)(j:Nat)(c:k<=j):ix (CP s d k) j=ix s j:=by
 induction k with
 |zero=>rfl
 |succ k a=>rw[CP,lW _ _ _ _ (by rw[zi];omega),aq af,a af af]
theorem WE{a b}(h:a.length=5):CP (uj a 4) (bU b) 5=mY a b:=by
 obtain⟨c,d,e,f,g,rfl⟩:=qa h
 rfl
theorem Ww{a}{x}(h:Fe a x)(i:Nat)(j:i<5):4503599627370458<=ix (uj a 4) i/\ix (uj a 4) i<9007199254740992:=by
 have k:=h.lo 0;have l:=h.lo 1;have m:=h.lo 2;have n:=h.lo 3;have o:=h.lo 4;have k0:=h.hi 0;have k1:=h.hi 1;have p:=h.hi 2;have q:=h.hi 3;have r:=h.hi 4;have s:=h.len;clear h;obtain⟨b,c,d,f,g,rfl⟩:=qa s;have e:uj [b,c,d,f,g] 4= [b+4503599627370458,c+4503599627370494,d+4503599627370494,f+4503599627370494,g+4503599627370494]:=rfl;simp only[E3]at k l m n o k0 k1 p q r;rw[e]
 match i,j with
 |0,_=>show 4503599627370458<=b+4503599627370458/\_<_;simp only[E3];omega
 |1,_=>simp only[E3];omega
 |2,_=>simp only[E3];omega
 |3,_=>simp only[E3];omega
 |4,_=>simp only[E3];omega
theorem Wy{a b}{x y}(c:Fe a x)(f:Fe b y)(i:Nat):0<=ix (mY a b) i/\ix (mY a b) i<9223372036854775808:=by
 have e:=kq f;unfold mY;generalize bU b=d at*
 match i with
 |0=>have:=c.lo 0;have:=c.hi 0;have:=e.lo 0;have:=e.hi 0;show 0<=ix a 0+4503599627370458 -ix d 0/\ix a 0+4503599627370458 -ix d 0<_;omega
 |1=>have:=c.lo 1;have:=c.hi 1;have:=e.lo 1;have:=e.hi 1;show 0<=ix a 1+4503599627370494 -ix d 1/\ix a 1+4503599627370494 -ix d 1<_;omega
 |2=>have:=c.lo 2;have:=c.hi 2;have:=e.lo 2;have:=e.hi 2;show 0<=ix a 2+4503599627370494 -ix d 2/\ix a 2+4503599627370494 -ix d 2<_;omega
 |3=>have:=c.lo 3;have:=c.hi 3;have:=e.lo 3;have:=e.hi 3;show 0<=ix a 3+4503599627370494 -ix d 3/\ix a 3+4503599627370494 -ix d 3<_;omega
 |4=>have:=c.lo 4;have:=c.hi 4;have:=e.lo 4;have:=e.hi 4;show 0<=ix a 4+4503599627370494 -ix d 4/\ix a 4+4503599627370494 -ix d 4<_;omega
 |n+5=>exact⟨by simp[ix],by simp[ix]⟩
theorem AI{a b:aR}{x y:Nat}(ha:Fe a x)(hb:Fe b y)(w:ay):
 Calls prog 51 #[.agg (ai .u64 a),.agg (ai .u64 b)] w (Ai (bU (mY a b)) w):=by
 have d:=aa ha;have l:=aa hb;clear ha hb
 go_enter func51,ntmps51
 go_upto_region 1 with(fail)
 refine aU (λW=>Below w.heap.size w W/\Whole W w.heap.size 50 (ai .u64 a)/\Whole W (w.heap.size+1) 50 (ai .u64 b)/\Whole W (w.heap.size+2) 50 (ai .u64 [0,0,0,0,0])) ⟨by go_grown,((Whole.new rfl rfl).alloc _).alloc _,(Whole.new bj rfl).alloc _,Whole.new bj rfl⟩ ?_;intro W0 ⟨v,z,n,A⟩;have B:=aa v;have C:=aa z;have D:=aa A;have f:=aa n;have l3:=(At.j n).R (m:=5) (by rw[ag,l.o.len]);have r3:=(At.j n).row (m:=5) (by rw[ag,l.o.len]);clear v z n A
 go_wp2_with fail
 refine(lE b l.o.len l.o.vX _).mono ?_;rintro e W1 ⟨rfl,g⟩;have P:=kq l.o;have N:=aa P;have r:=f.o.below g f.o.inside;have Q:=aa r;have l3:=(At.j r).R (m:=5) (by rw[ag,l.o.len]);have ro:=bY .u64 (bU b) 5 P.len;have R:=aa (C.o.below g C.o.inside);have V:=aa (D.o.below g D.o.inside);have E:=aa (B.o.trans (g.mono B.o.size));clear g r P
 go_upto_region 2 with(fail)
 refine aU (λW=>Below w.heap.size w W/\Whole W w.heap.size 50 (ai .u64 a)/\Whole W (w.heap.size+1) 50 (ai .u64 (bU b))/\Whole W (w.heap.size+2) 50 (ai .u64 [0,0,0,0,0])) ⟨E.o.grown (aG _ _ _ _) E.o.size (λk p=>by injection p with p;omega),R.o.only (aG _ _ _ _) bj,Q.o.fill (by rw[ag,ag,N.o.len,l.o.len]),V.o.only (aG _ _ _ _) bj⟩ ?_;intro O ⟨F,o,c,G⟩;have h:=aa F;have H:=aa c;have s:=aa G;have U0:=(eU.start o).set 0 (ix a 0+4503599627370458);have c0:=o.int 0 (by rw[d.o.len];decide);have f0:=o.free 0;have q0:=d.o.lo 0;have q1:=d.o.hi 0;have I:=aa (show eU O _ w.heap.size 50 .u64 (uj a 0)from U0);clear F o c G U0;generalize ix a 0=x0 at*
 go_wp2_with fail
 generalize O.setCell _ _=W3 at I⊢;clear c0 f0 q0 q1 l3 ro r3
 go_loopw [5] (λi wr=> ∃k:Nat,k<=4/\i= .int .i64 (k+1:Nat)/\eU O wr w.heap.size 50 .u64 (uj a k)) (λi _=>5 -(intOf i).toNat)
 case atStart=>exact⟨0,af,rfl,I.o⟩
 case round=>
  obtain⟨k,p,rfl,U⟩:=hrel;have J:=aa U;have t:=aa (by rw[zh,d.o.len]:(uj a k).length=5);clear U
  by_cases K:k<4
  .have i1:((k+1:Nat):Int)<5:=af;have X:=J.o.cell (k+1) (by rw[t.o];omega);rw[Wx a k (by rw[d.o.len];omega) (k+1) af]at X;have fO:=J.o.frozen (k+1);have a0:=d.o.lo (k+1);have a1:=d.o.hi (k+1);have Y:=aa (show uj a (k+1)=(uj a k).set (k+1) (ix a (k+1)+4503599627370494)from rfl);generalize ix a (k+1)=x at*;generalize hj:k+1=j at*;have HJ:=aa hj;clear hj
   go_wp2_with fail
   go_roundw
   case rel=>exact⟨k+1,af,by rw[HJ.o];go_num,by rw[HJ.o,Y.o];exact J.o.set _ _⟩
   case measure=>simp[intOf];omega
  .obtain rfl:k=4:=af;clear K p;have q:=J.o;generalize Z:uj a 4=S at*;have Y:=aa Z;have ab:=aa (λi hi=>Z▸Ww d.o i hi);clear Z
   go_wp2_with fail
   go_loopw [26] (λi wr=> ∃k:Nat,k<=5/\i= .int .i64 k/\eU O wr w.heap.size 50 .u64 (CP S (bU b) k)) (λi _=>5 -(intOf i).toNat)
   case atStart=>exact⟨0,af,rfl,J.o⟩
   case round=>
    obtain⟨k,p,rfl,U⟩:=hrel;have L:=aa U;have ad:=aa (by rw[zi,t.o]:(CP S (bU b) k).length=5);clear U q
    by_cases K:k<5
    .have i1:(k:Int)<5:=af;have X:=L.o.cell k (by rw[ad.o];exact K);rw[Wz S (bU b) k (by rw[t.o];omega) k (ak _)]at X;have fO:=L.o.frozen k;have cB:=(L.o.other H.o af).int k (by rw[N.o.len];exact K);obtain⟨a0,a1⟩:=ab.o k K;have b0:=N.o.lo k;have b1:=N.o.hi k;have HT:=aa (show CP S (bU b) (k+1)=(CP S (bU b) k).set k (ix S k -ix (bU b) k)from rfl);generalize ix S k=x at*;generalize ix (bU b) k=y at*;have hw:IntKind.u64.wrap (x -y)=x -y:=by rw[bH];omega
     go_wp2_with fail
     go_region
     all_goals
      go_wp2_with fail
      go_roundw
      case rel=>exact⟨k+1,af,by go_num,by rw[HT.o];exact(L.o.set k _).drew⟩
      case measure=>simp[intOf];omega
    .obtain rfl:k=5:=af;have q:=L.o;rw[<-Y.o,WE d.o.len]at q;have hz:(mY a b).length=5:=rfl;have l1:=(At.j q.et).R (m:=5) (by rw[ag,hz]);have r1:=(At.j q.et).row (m:=5) (by rw[ag,hz]);have f:=aa (q.below h.o (ak _) h.o.size);have M:=aa (q.other s.o af);clear q hz
     go_wp2_with fail
     refine(lE (mY a b) rfl (Wy d.o l.o) _).mono ?_;rintro e w2 ⟨rfl,c⟩;have hr:=M.o.below c M.o.inside;have l2:=(At.j hr).R (m:=5) (by rw[ag];rfl);have u:=pq d.o l.o;have ro:=bY .u64 (bU (mY a b)) 5 u.len;have aj:=aa u;have h:=aa (f.o.trans (c.mono f.o.size));have s:=aa hr;clear c hr u
     go_wp2_with fail
     refine ej rfl underlying50 rfl sW (w.heap.size+2) (ai .u64 (bU (mY a b))) _ rfl rfl s.o (by rw[ag];rfl) (by rw[ag,aj.o.len]) ⟨rfl,?_⟩;exact h.o.grown (aG _ _ _ _) h.o.size (λk p=>by injection p with p;omega)
end Go.Proofs.P
namespace Go.Spk
section
variable {P:Program}{ops:Array Oper}{md:Region.Mode}{C:World->Prop}
def NoT(ops:Array Oper)(n:Nat)(listed:Array Bool):Prop:=listed.size=ops.size/\ ∀t,n<=t->t<ops.size->listed.getD t true=false
theorem NoT.set{n i}{listed}(h:NoT ops n listed)(d:i<n):NoT ops n (listed.setIfInBounds i true):=by
 refine⟨by simpa using h.1,λt b a=> ?_⟩
 by_cases c:i<listed.size
 .rw[iM _ _ _ c,aq af];exact h.2 t b a
 .have:=h.1;omega
end
section
variable {P:Program}{ops:Array Oper}{md:Region.Mode}{C:World->Prop}
def FK(md:Region.Mode)(ops:Array Oper)(i:Nat):Nat->Nat->Bool
 |0,_=>false
 |f+1,t=>((ops[t]?).map λo=>o.after.any λe=>Region.binds md e&&(e.on==i||FK md ops i f e.on)).getD false
def yy(md:Region.Mode)(ops:Array Oper)(n:Nat):Bool:=
 (List.range ops.size).all λt=>decide (t<n)||(List.range n).all λi=>FK md ops i ops.size t
def Pp(md:Region.Mode)(ops:Array Oper)(listed:Array Bool):Prop:=listed.size=ops.size/\ ∀j o,ops[j]?=some o->listed.getD j true=true-> ∀e∈o.after,Region.binds md e=true->listed.getD e.on false=true
theorem Pp.waits{listed:rX}(h:Pp md ops listed){i:Nat}:∀(f t:Nat),FK md ops i f t=true->(∃o,ops[t]?=some o/\ ∀e∈o.after,Region.binds md e=true->listed.getD e.on false=true)->listed.getD i false=true
 |0,t,b,_=>by cases b
 |f+1,t,b,⟨o,n,c⟩=>by
  unfold FK at b;rw[n]at b;simp only[Option.map_some,Option.getD_some,Array.any_eq_true]at b;obtain⟨k,p,j⟩:=b;simp only[Bool.and_eq_true,Bool.or_eq_true,beq_iff_eq]at j;have g:=c _ (Array.getElem_mem p) j.1;rcases j.2 with e|e
  .rwa[e]at g
  .have a:o.after[k].on<listed.size:=by
    refine Nat.lt_of_not_le λl=> ?_;simp[Array.getElem?_eq_none l]at g
   have d:o.after[k].on<ops.size:=by rw[<-h.1];exact a
   have m:listed.getD o.after[k].on true=true:=by
    simp[a]at g⊢;exact g
   exact Pp.waits h f _ e ⟨_,gv d,h.2 _ _ (gv d) m⟩
theorem Pp.set{i}{listed}(h:Pp md ops listed)(p:i∈Region.ready md ops listed):Pp md ops (listed.setIfInBounds i true):=by
 obtain⟨q,s,b,d⟩:=dj.1 p;have r:i<listed.size:=by rw[h.1];exact(aT.1 b).1
 have key:∀u,listed.getD u false=true->(listed.setIfInBounds i true).getD u false=true:=λu f=>by
  have a:u<listed.size:=by
   refine Nat.lt_of_not_le λg=> ?_;simp[Array.getElem?_eq_none g]at f
  by_cases c:i=u
  .subst c;simp[a]
  .simp[a]at f⊢;rw[Array.getElem_setIfInBounds_ne a c];exact f
 refine⟨by simpa using h.1,λj o k l e m n=>key _ ?_⟩;rw[iM _ _ _ r]at l
 by_cases c:i=j
 .subst c;rw[b]at k;cases k;exact d e m n
 .rw[aq c]at l;exact h.2 j o k l e m n
theorem uc{n j i}{listed}(g:yy md ops n=true)(k:Pp md ops listed)(l:j∈Region.ready md ops listed)(m:i<n)(hl:listed.getD i true=false):j<n:=by
 obtain⟨o,p,a,b⟩:=dj.1 l;refine Nat.lt_of_not_le λc=> ?_;have e:=(aT.1 a).1;unfold yy at g;have h:=fX.1 g j (ek e);have f:decide (j<n)=false:=by simp;omega
 rw[f,Bool.false_or]at h;have q:=fX.1 h i (ek m);have d:=k.waits _ _ q ⟨p,a,b⟩
 have r:i<listed.size:=by
  refine Nat.lt_of_not_le λc=> ?_;simp[Array.getElem?_eq_none c]at d
 simp[r]at hl d;rw[hl]at d;cases d
theorem CS{n}{L}{i}{s}{v}(N:ops[i]?=some s)(p:i<n)(m:yy md ops n=true)(t:∀(j:Nat) (o:Oper) B b,ops[j]?=some o->o.op≠ .select B b):
 ∀(f:Nat) (listed:rX) (a:Act),Pp md ops listed->
  (∀j x,ops[j]?=some x->j≠i->listed.getD j true=false->(∀e∈x.after,Region.binds md e=true->e.on≠i)->s.apart ops x=true)->
  i∈Region.ready md ops listed->ir P ops (λ_:Unit=>C) s v a->
  yD P md ops C n L f (listed.setIfInBounds i true) (a.put s.dst v)->yD P md ops C n L (f+1) listed a:=by
 intro f
 induction f with
 |zero=>
  intro listed a q g J K H;have c:=(dj.1 J).1;refine⟨(λh=>by rw[rA.1 h i p]at c;cases c),λ_ j u=> ?_⟩
  by_cases d:j=i
  .subst d;exact⟨s,v,N,K,H⟩
  .have y:=uc m q u p c;have l:=rA.1 H.1 j y;have M:=(dj.1 u).1;rw[qZ true (gT d)]at l;rw[l]at M;cases M
 |succ f V=>
  intro listed a q g J K H;have c:=(dj.1 J).1;refine⟨(λh=>by rw[rA.1 h i p]at c;cases c),λ_ j u=> ?_⟩
  by_cases d:j=i
  .subst d;exact⟨s,v,N,K,H⟩
  .have y:=uc m q u p c;have D:=(dj.1 u).1
   have z:Ep n (listed.setIfInBounds i true)=false:=by
    cases h:Ep n (listed.setIfInBounds i true)with
    |false=>rfl
    |true=>
     have l:=rA.1 h j y;rw[qZ true (gT d)]at l;rw[l]at D;cases D
   have l:=H.2 z j (j0 u d);obtain⟨w,x,A,E⟩:=dj.1 u
   have F:∀e∈x.after,Region.binds md e=true->e.on≠i:=λe W X O=>by
    have l:=E e W X;rw[O]at l;rcases Nat.lt_or_ge i listed.size with Q|Q
    .simp[Q]at c l;rw[c]at l;cases l
    .simp[Array.getElem?_eq_none Q]at l
   have M:=Um A (g j x A d w F) (λB b=>t i s B b N) (λB b=>t j x B b A) K l
   have r:∀k G,ops[k]?=some G->k≠i->(listed.setIfInBounds j true).getD k true=false->
    (∀e∈G.after,Region.binds md e=true->e.on≠i)->s.apart ops G=true:=λk G Y R c S=>by
    refine g k G Y R ?_ S
    by_cases I:j=k
    .subst I;exact w
    .rw[qZ true I]at c;exact c
   refine PZ (λZ U=>V (listed.setIfInBounds j true) Z (q.set u) r (j0 J (gT d)) U.1 ?_) M;rw[td _ _ d];exact U.2
theorem Jb{n g}{L}{Q'}(H:ops.size=n+g)(d:yy md ops n=true)(e:L3 md ops=true)
 (k:∀(listed:rX) (a:Act) (w:ay),listed.size=ops.size->(∀i,i<n->listed.getD i true=true)->(∀t,n<=t->t<ops.size->listed.getD t true=false)->C w->L a->wpAny P md ops Q' g listed a w):
 ∀(f:Nat) (listed:rX) (a:Act) (w:ay),listed.size=ops.size->(∀t,n<=t->t<ops.size->listed.getD t true=false)->Pp md ops listed->tg listed n=f->C w->yD P md ops C n L f listed a->wpAny P md ops Q' (f+g) listed a w:=by
 intro f
 induction f with
 |zero=>
  intro listed a w p r b D s h;rw[aW];exact k listed a w p (NO D) r s h.2
 |succ f I=>
  intro listed a w p r b D s h;obtain⟨E,l,c⟩:=Qi (n:=n) (listed:=listed) af
  have j:Ep n listed=false:=by
   cases J:Ep n listed with
   |false=>rfl
   |true=>rw[rA.1 J E l]at c;cases c
  rw[show f+1+g=(f+g)+1 by omega];refine⟨λm=> ?_,λi q=> ?_⟩
  .have:=vj (md:=md) p (Ar e) m E af;rw[this]at c;cases c
  .have u:=uc d b q l c;have x:=(dj.1 q).1;obtain⟨o,v,F,K,M⟩:=h.2 j i q;have G:i<listed.size:=by have:=(aT.1 F).1;omega
   have N:DD P ops (λ_:Unit=>C) i (λy _=>yD P md ops C n L f (listed.setIfInBounds i true) y) a ():=K.DD F M;refine zn (Cl:=λ_:Unit=>C) s (λy _ O z A=> ?_) N;refine I _ y O (ek p) (λt Q B=> ?_) (b.set q) ?_ z A
   .rw[iM _ _ _ G,aq af];exact r t Q B
   .have:=Qj u G x;omega
theorem zm{n:Nat}{L:Act->Prop}(q:Region.noSelect ops=true)(b:yy md ops n=true):∀(l:List Oper) (k:Nat) (listed:rX) (a:Act),Pp md ops listed->n<=ops.size->k+l.length=n->(∀j,j<l.length->l[j]?=ops[k+j]?)->(∀i,i<k->listed.getD i true=true)->
 kg md ops l.length k listed=true->wpQuiet P ops C L l a->yD P md ops C n L l.length listed a
 | [],k,listed,a,_,_,f,_,c,_,h=>⟨rA.2 λi x=>c i (by simp at f;omega),h⟩
 |o::l,k,listed,a,d,g,f,r,c,s,h=>by
  have t:ops[k]?=some o:=by simpa using(r 0 bj).symm
  simp only[List.length_cons,kg,Bool.and_eq_true]at s;obtain⟨⟨u,y⟩,m⟩:=s
  have p:∃v,ir P ops (λ_:Unit=>C) o v a/\wpQuiet P ops C L l (a.put o.dst v):=by
   simp only[wpQuiet]at h
   by_cases e:Region.wanted o (yielded ops a.tmps)=true
   .rw[aJ e]at h;obtain⟨v,z,A⟩:=h;exact⟨v,.inl ⟨e,λ_ w B=>z w B⟩,A⟩
   .rw[aq e]at h;exact⟨undef,.inr ⟨by simpa using e,rfl⟩,h⟩
  obtain⟨v,p,D⟩:=p;simp only[List.length_cons]at f
  have:=zm q b l (k+1) (listed.setIfInBounds k true) (a.put o.dst v) (d.set (ek u)) g af (λj E=>by have:=r (j+1) (by simp;omega);simpa[Nat.add_assoc,Nat.add_comm 1 j]using this)
   (
    λi x=>by
    rw[iM _ _ _ (by rw[d.1];omega)]
    split
    .rfl
    .exact c i af) m D
  rw[fw];exact CS t af b (mU q) l.length listed a d (Region.free_spec t y) (ek u) p this
theorem mp{id}{Q}{a}{w}{l:List Oper}(n:Nat)(C:World->Prop)(hm:P.follows .mixedOrders=true)
 (E:(Region.noSelect l.toArray&&decide (n<l.length)&&kg .any l.toArray n 0 (Array.replicate l.length false)&&yy .any l.toArray n&&L3 .any l.toArray&&Region.seqB .any l.toArray (l.length -n) n (DJ l.length n))=true) (G:C w.drew)
 (h:wpQuiet P l.toArray C (λq=> ∀W,C W->wpList P l.toArray Q (l.drop n) q W) (l.take n) a):(Code.region id l.toArray true).wp P Q a w:=by
 simp only[Bool.and_eq_true,decide_eq_true_eq]at E;obtain⟨⟨⟨⟨⟨I,X⟩,s⟩,d⟩,r⟩,u⟩:=E;have m:(l.take n).length=n:=by simp;omega
 have v:(l.drop n).length=l.length -n:=bj
 have f:Pp .any l.toArray (Array.replicate l.length false):=by
  refine⟨bj,λj o J M=> ?_⟩;have y:j<l.length:=by simpa using(aT.1 J).1
  simp[y]at M
 refine wp_region_any hm ?_
 have H:=zm (P:=P) (md:= .any) (C:=C) (ops:=l.toArray) (n:=n) (L:=λq=> ∀W,C W->wpList P l.toArray Q (l.drop n) q W) I d (l.take n) 0 (Array.replicate l.length false) a f (by simp;omega) (by rw[aW,m])
  (
   λj y=>by
   have z:j<n:=by rw[m]at y;exact y
   simp[z]) (λi Y=>by omega) (by rw[m];exact s) h
 rw[m]at H;have e:l.toArray.size=n+(l.length -n):=by simp;omega
 have A:tg (Array.replicate l.length false) n=n:=by
  have:∀k,k<=l.length->tg (Array.replicate l.length false) k=k:=by
   intro k
   induction k with
   |zero=>intro _;rfl
   |succ k N=>intro Z;simp only[tg,N af];simp[show k<l.length by omega]
  exact this n af
 have K:=Jb (P:=P) (md:= .any) (C:=C) (ops:=l.toArray) (n:=n) (g:=l.length -n) (L:=λq=> ∀W,C W->wpList P l.toArray Q (l.drop n) q W) (Q':=Q) e d r
  (
   λb q W F O R S U=>by
   have B:b=DJ l.length n:=by
    apply Array.ext
    .rw[F];simp[DJ];omega
    .intro i p oU;have D:i<l.length:=by rw[F]at p;simpa using p
     by_cases c:i<n
     .have:=O i c;simp only[Array.getD,p,dif_pos]at this;rw[show b[i]=true from this];simp[DJ,c]
     .have:=R i af (ek D);simp only[Array.getD,p,dif_pos]at this;rw[show b[i]=false from this];simp[DJ,List.getElem_append,c]
   subst B;have:=wpAny_of_seq (P:=P) (md:= .any) (ops:=l.toArray) (Q':=Q) (l.drop n) n (DJ l.length n) q W (λj=>by simp[List.getElem?_drop]) (by rw[v];exact u) (U W S);rwa[v]at this) n (Array.replicate l.length false) a w.drew bj (λt ht x=>by simp at x;simp[x]) f A G H
 have V:l.toArray.size=l.length:=bj;rw[show n+(l.length -n)=l.length by omega]at K;rw[V];exact K
end
section
variable {P:Program}{ops:Array Oper}{md:Region.Mode}
theorem A8:∀(f k:Nat) (l:Array Bool),(tO f k l).size=l.size
 |0,_,_=>rfl
 |f+1,k,l=>by rw[tO,A8 f];simp
theorem wK:∀(f k:Nat) (l:Array Bool) (i:Nat),k+f<=l.size->(tO f k l).getD i true=if k<=i/\i<k+f then true else l.getD i true
 |0,k,l,i,_=>by rw[tO,aq af]
 |f+1,k,l,i,h=>by
  rw[tO,wK f (k+1) _ i (by simp;omega),iM _ _ _ af]
  by_cases e:k=i
  .subst e;simp
  .rw[aq e]
   by_cases c:k+1<=i/\i<k+1+f
   .rw[aJ c,aJ af]
   .rw[aq c,aq af]
def tvB(md:Region.Mode)(ops:Array Oper)(n k:Nat)(T:TypeId)(ds ms:List Nat):Bool:=
 decide (ops.size=n+k+k)&&L3 md ops&&decide (∀i,i<k-> ∀j,j<k->ds.getD i 0=ds.getD j 0->i=j)&&decide (∀i,i<k-> ∀j,j<k->ds.getD i 0≠ms.getD j 0)&&
 (
  List.range k).all λj=>(match ops[n+j]? with
  |some o=>decide (o.dst=some (ds.getD j 0))&&o.guard.isNone&&(match o.op with| .alloc t=>decide (t=T)|_=>false)
  |none=>false)&&
 (
  match ops[n+k+j]? with
  |some o=>o.dst.isNone&&o.guard.isNone&&(match o.op with| .store t (.tmp x) (.tmp y)=>decide (t=T)&&decide (x=ds.getD j 0)&&decide (y=ms.getD j 0)|_=>false)&&o.after.any (λe=>e.on==n+j&&Region.binds md e)
  |none=>false)
theorem ZO{Q}{w}{T}{z}{cs}{a1}(n k:Nat)(ds ms:iT)(A:tvB md ops n k T ds ms=true)
 (B:∀(o:Oper) K W,o.op= .alloc T->(execOp K o).run P W= .ok (.value (.pointer (some ⟨W.heap.size,0,none⟩))) (W.alloc (.cells z T)))
 (C:∀j,j<k->ds.getD j 0<a1.tmps.size) (L:∀j,j<k->a1.eval (.tmp (ms.getD j 0))= .agg (cs j))
 (D:∀j,j<k->(P.info? T).map (·.size)=some (cs j).size) (E:∀j,j<k->z.size=(cs j).size) (r:∀j,j<k->(cs j).all (·.oneCell')=true)
 (hq:∀p,Q (fl (λj=>ds.getD j 0) a1 (vS k p) k) (vS k p)) (g m:Nat) (M:g=k+k) (hm:m=ops.size):mF P md ops (Jk w T z cs) Q g (tO n 0 (Array.replicate m false)) a1 (λ_=>none):=by
 subst M hm;unfold tvB at A;simp only[Bool.and_eq_true,decide_eq_true_eq]at A;obtain⟨⟨⟨⟨s,l⟩,N⟩,F⟩,b⟩:=A;have b:=λj (c:j<k)=>fX.1 b j (ek c);have q:∀j:Nat,k<=j->(λ_=>none:TV) j=none:=λ_ _=>rfl
 have u:∀j,nH (λ_=>none) j=j+j:=by
  intro j
  induction j with
  |zero=>rfl
  |succ j G=>simp only[nH,G];omega
 have O:∀j,fl (λj=>ds.getD j 0) a1 (λ_=>none) j=a1:=by
  intro j
  induction j with
  |zero=>rfl
  |succ j G=>simp only[fl,G]
 have key:=OX (P:=P) (md:=md) (Q:=Q) (w:=w) (z:=z) (cs:=cs) (ds:=λj=>ds.getD j 0) (ms:=λj=>ms.getD j 0) (a1:=a1) n k s (T:=T)
  (
   λj c=>by
   have h:=b j c;rw[Bool.and_eq_true]at h;have d:=h.1;cases v:ops[n+j]? with
   |none=>rw[v]at d;cases d
   |some o=>
    rw[v]at d;simp only[Bool.and_eq_true,decide_eq_true_eq]at d;obtain⟨⟨H,I⟩,e⟩:=d;refine⟨o,rfl,H,by simpa using I,λa W=>B o _ W ?_⟩;revert e;cases o.op<;>intro e<;>simp at e;rw[e])
  (
   λj c=>by
   have h:=b j c;rw[Bool.and_eq_true]at h;have d:=h.2;cases v:ops[n+k+j]? with
   |none=>rw[v]at d;cases d
   |some o=>
    rw[v]at d;simp only[Bool.and_eq_true]at d;obtain⟨⟨⟨H,I⟩,e⟩,J⟩:=d;refine⟨o,rfl,by simpa using H,by simpa using I,?_,?_⟩
    .revert e;cases o.op<;>intro e<;>try (simp at e)
     rename_i t x y;cases x<;>try (simp at e)
     cases y<;>try (simp at e)
     obtain⟨⟨R,S⟩,U⟩:=e;rw[R,S,U];simp
    .simp only[Array.any_eq_true,Bool.and_eq_true,beq_iff_eq]at J;obtain⟨i,D,V,X⟩:=J;exact⟨_,Array.getElem_mem D,X,V⟩)
  (Ar l) (λi j f c=>N i f j c) C (λi j f c=>F i f j c) L D E r hq (k+k) (tO n 0 (Array.replicate ops.size false)) (λ_=>none)
  ⟨by rw[A8];simp[s],λi f=>by rw[wK _ _ _ _ (by simp;omega),aJ af],λj c=>by rw[wK _ _ _ _ (by simp;omega),aq af];simp[show n+j<ops.size by omega],
   λj c=>by rw[wK _ _ _ _ (by simp;omega),aq af];simp[show n+k+j<ops.size by omega],q⟩ (by rw[u];exact ak _)
 rw[O]at key;exact key
end
end Go.Spk
