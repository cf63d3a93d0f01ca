/- Lemmas on which SessionPins rests. -/
import Derived.Below
import Derived.BigQuiet
import Derived.ChangeSame
import Derived.ChangeSlices
import Derived.DataShut
import Derived.Deep.AppendLies
import Derived.Deep.DrawnRows
import Derived.Deep.Draws
import Derived.Deep.LoopGhost
import Derived.Deep.MidRow
import Derived.Deep.Quiet
import Derived.Great.Frames
import Derived.Ground.Names2Prog
import Derived.Ground.SlgnProg
import Derived.Handy
import Derived.KernelRfl
import Derived.Laws.BytesArg
import Derived.Laws.Cover3
import Derived.Laws.IdiomStrings
import Derived.Laws.OwnMore
import Derived.Laws.Rows
import Derived.Laws.StructEq
import Derived.Lib.Hide
import Derived.Lib.LaidTab
import Derived.LoopN
import Derived.LoopTactic
import Derived.OpenShut
import Derived.Outline
import Derived.OwnWalk
import Derived.Shelf.Bits.Mul64
import Derived.Shelf.LaysM
import Derived.Shelf.Slices.Clone
import Derived.Shelf.Slices.Empties2
import Derived.Shelf.Slices.Equal
import Derived.Shelf.Slices.Turned
import Derived.Shelf.SlicesE.Clone
import Derived.Shelf.Small.Strs
import Derived.Shelf.Small.Utf8
import Derived.Shelf.Small.Wraps
import Derived.Shelf.Strings.AsciiSet
import Derived.Shelf.Strings.Builder1
import Derived.Shelf.Strings.Builder2
import Derived.Shelf.Strings.Builder2Cap
import Derived.Shelf.Strings.BuilderCap
import Derived.Shelf.Strings.BuilderF
import Derived.Shelf.Strings.BuilderK
import Derived.Shelf.Strings.Count
import Derived.Shelf.Strings.Cut
import Derived.Shelf.Strings.Explode
import Derived.Shelf.Strings.OnBuilder
import Derived.Shelf.Strings.Prefix
import Derived.Shelf.Strings.Repeat
import Derived.Shelf.Strings.RuneCount
import Derived.Shelf.Strings.Runes
import Derived.Shelf.Strings.Search1
import Derived.Shelf.Strings.Search2
import Derived.Shelf.Strings.Search3
import Derived.Shelf.Strings.Shaped
import Derived.Shelf.Strings.Split
import Derived.Shelf.Strings.SplitShaped
import Derived.Shelf.Strings.Trim
import Derived.Shelf.Unicode.Decode
import Derived.Shelf.Unicode.DecodeAny
import Derived.Shelf.Unicode.DecodeSlow
import Derived.Shelf.Utf8.RuneCount
import Derived.StillTail
import Derived.Tactics
import Derived.Test.YtcjcibnggioknaaGreatDoorProg
import Derived.WalkKit
import Derived.WalkSpells
set_option maxRecDepth 100000
set_option maxHeartbeats 40000000
set_option linter.unusedVariables false
namespace Go
open RowKit
theorem aa{p:Prop}(h:p):RowKit.Hid p:=Lib.hid h
theorem al{p:Prop}(h:p:=by kernel_rfl):p:=h
theorem af{p:Prop}(h:p:=by omega):p:=h
theorem an{p:Prop}(h:p:=by decide):p:=h
theorem bj{p:Prop}(h:p:=by simp):p:=h
theorem fN{p:Prop}(h:p:=by go_simp):p:=h
theorem RowKit.Hid.o{p:Prop}(h:RowKit.Hid p):p:=h.out
theorem ade{p:Prop}(h:p:=by refine quietAt_val ?_;go_simp):p:=h
abbrev qu:=List (List Value)
abbrev acs:=List (List ByteArray)
abbrev eL:=List ByteArray
abbrev gF:=List Value
abbrev gJ:=Array Value
abbrev aR:=List Int
abbrev iT:=List Nat
abbrev bB:=ByteArray
abbrev ZV:=Array Oper
abbrev rX:=Array Bool
abbrev ay:=World
abbrev fg:=TypeId
abbrev cH:=Value
abbrev gn:=Nat → Addr
abbrev abm:=Program
abbrev ao:Value:=.int .u8 0
abbrev bO:Value:=.int .u64 0
theorem aP{α:Sort _}(a:α):∃x,x=a:=⟨a,rfl⟩
theorem eZ{α:Sort _}(a:α):∃x,RowKit.Hid (x=a):=⟨a,Lib.hid rfl⟩
theorem ek{p q:Prop}(h:p)(k:p->q:=by intro h;simpa using h):q:=k h
theorem dp{p q:Prop}(h:p)(k:p->q:=by intro h;omega):q:=k h
theorem aA:type_of% @congrArg:=@congrArg
theorem aH:type_of% @block_lt_of_cell:=@block_lt_of_cell
theorem aI:type_of% @List.getElem?_eq_some_iff:=@List.getElem?_eq_some_iff
theorem aJ:type_of% @if_pos:=@if_pos
theorem aL:type_of% @Nat.lt_of_lt_of_le:=@Nat.lt_of_lt_of_le
theorem aM:type_of% @List.length_map:=@List.length_map
theorem aN:type_of% @ByteArray.size_append:=@ByteArray.size_append
theorem aO:type_of% @List.length_take:=@List.length_take
theorem aQ:type_of% @List.getElem?_eq_getElem:=@List.getElem?_eq_getElem
theorem aT:type_of% @Array.getElem?_eq_some_iff:=@Array.getElem?_eq_some_iff
theorem aW:type_of% @Nat.zero_add:=@Nat.zero_add
theorem ah:type_of% @List.mem_of_getElem?:=@List.mem_of_getElem?
theorem ak:type_of% @Nat.le_refl:=@Nat.le_refl
theorem am:type_of% @List.length_append:=@List.length_append
theorem ap:type_of% @Nat.le_trans:=@Nat.le_trans
theorem aq:type_of% @if_neg:=@if_neg
theorem ar:type_of% @List.mem_singleton:=@List.mem_singleton
theorem au:type_of% @Int.eq_ofNat_of_zero_le:=@Int.eq_ofNat_of_zero_le
theorem aw:type_of% @RowKit.Below.refl:=@RowKit.Below.refl
theorem bD:type_of% @Nat.ne_of_lt:=@Nat.ne_of_lt
theorem bH:type_of% @IntKind.wrap_u64:=@IntKind.wrap_u64
theorem bJ:type_of% @run_callFunc_extern:=@run_callFunc_extern
theorem bK:type_of% @List.length_drop:=@List.length_drop
theorem bL:type_of% @List.take_of_length_le:=@List.take_of_length_le
theorem bN:type_of% @Option.map_eq_some_iff:=@Option.map_eq_some_iff
theorem bP:type_of% @List.append_nil:=@List.append_nil
theorem bQ:type_of% @Nat.div_div_eq_div_mul:=@Nat.div_div_eq_div_mul
theorem bT:type_of% @List.mem_append:=@List.mem_append
theorem bV:type_of% @List.getD_eq_getElem?_getD:=@List.getD_eq_getElem?_getD
theorem bf:type_of% @List.append_assoc:=@List.append_assoc
theorem bi:type_of% @List.getElem?_map:=@List.getElem?_map
theorem bu:type_of% @Nat.le_succ_of_le:=@Nat.le_succ_of_le
theorem bv:type_of% @run_convert_bytes_arg:=@run_convert_bytes_arg
theorem cI:type_of% @bodyPost_ret:=@bodyPost_ret
theorem cN:type_of% @List.map_append:=@List.map_append
theorem cQ:type_of% @wpList_store_row:=@wpList_store_row
theorem cR:type_of% @List.take_append_drop:=@List.take_append_drop
theorem cW:type_of% @Int.toNat_natCast:=@Int.toNat_natCast
theorem ce:type_of% @Nat.zero_le:=@Nat.zero_le
theorem cj:type_of% @List.mem_cons_of_mem:=@List.mem_cons_of_mem
theorem dH:type_of% @List.size_toArray:=@List.size_toArray
theorem dR:type_of% @heap_alloc_new:=@heap_alloc_new
theorem dW:type_of% @List.mem_of_mem_take:=@List.mem_of_mem_take
theorem dX:type_of% @rounds_succ:=@rounds_succ
theorem df:type_of% @World.cell?_of_block:=@World.cell?_of_block
theorem dj:type_of% @mem_ready:=@mem_ready
theorem dx:type_of% @List.length_set:=@List.length_set
theorem dz:type_of% @List.mem_cons:=@List.mem_cons
theorem e8:type_of% @Nat.shiftRight_eq_div_pow:=@Nat.shiftRight_eq_div_pow
theorem e9:type_of% @wpQuiet_step:=@wpQuiet_step
theorem eI:type_of% @List.getElem?_eq_none:=@List.getElem?_eq_none
theorem eK:type_of% @World.grownBy_alloc:=@World.grownBy_alloc
theorem eM:type_of% @decide_eq_false:=@decide_eq_false
theorem ea:type_of% @List.mem_filter:=@List.mem_filter
theorem eg:type_of% @List.getElem?_toArray:=@List.getElem?_toArray
theorem eh:type_of% @List.length_replicate:=@List.length_replicate
theorem eo:type_of% @List.nil_append:=@List.nil_append
theorem eq:type_of% @Nat.ne_of_gt:=@Nat.ne_of_gt
theorem es:type_of% @Nat.pow_le_pow_right:=@Nat.pow_le_pow_right
theorem ez:type_of% @World.grownBy.refl:=@World.grownBy.refl
theorem fF:type_of% @Nat.mod_lt:=@Nat.mod_lt
theorem fI:type_of% @Nat.le_of_lt:=@Nat.le_of_lt
theorem fT:type_of% @Nat.mul_le_mul:=@Nat.mul_le_mul
theorem fX:type_of% @List.all_eq_true:=@List.all_eq_true
theorem fY:type_of% @List.drop_of_length_le:=@List.drop_of_length_le
theorem fZ:type_of% @List.mem_map:=@List.mem_map
theorem fj:type_of% @decide_eq_true:=@decide_eq_true
theorem fu:type_of% @IntKind.wrap_i64:=@IntKind.wrap_i64
theorem fw:type_of% @List.length_cons:=@List.length_cons
theorem gB:type_of% @beq_eq_false_iff_ne:=@beq_eq_false_iff_ne
theorem gD:type_of% @run_bytes_of_string:=@run_bytes_of_string
theorem gG:type_of% @List.drop_append_of_le_length:=@List.drop_append_of_le_length
theorem gO:type_of% @wp_loop_rounds:=@wp_loop_rounds
theorem gR:type_of% @Nat.two_pow_pos:=@Nat.two_pow_pos
theorem gT:type_of% @Ne.symm:=@Ne.symm
theorem gX:type_of% @Nat.lt_of_le_of_lt:=@Nat.lt_of_le_of_lt
theorem ga:type_of% @List.not_mem_nil:=@List.not_mem_nil
theorem gv:type_of% @Array.getElem?_eq_getElem:=@Array.getElem?_eq_getElem
theorem gw:type_of% @List.drop_eq_getElem_cons:=@List.drop_eq_getElem_cons
theorem hJ:type_of% @List.mem_append_left:=@List.mem_append_left
theorem iU:type_of% @Option.some.inj:=@Option.some.inj
theorem ie:type_of% @List.mem_of_mem_drop:=@List.mem_of_mem_drop
theorem ig:type_of% @Nat.mod_eq_of_lt:=@Nat.mod_eq_of_lt
theorem im:type_of% @results_cell_row:=@results_cell_row
theorem j0:type_of% @ready_mono:=@ready_mono
theorem jD:type_of% @List.take_append_of_le_length:=@List.take_append_of_le_length
theorem jE:type_of% @wp_region_still_tail:=@wp_region_still_tail
theorem jW:type_of% @List.ext_getElem?:=@List.ext_getElem?
theorem jZ:type_of% @Oper.apart_spec:=@Oper.apart_spec
theorem jb:type_of% @List.getElem?_append_left:=@List.getElem?_append_left
theorem jc:type_of% @List.mem_or_eq_of_mem_set:=@List.mem_or_eq_of_mem_set
theorem jf:type_of% @IntKind.wrap_u8':=@IntKind.wrap_u8'
theorem jg:type_of% @List.mem_cons_self:=@List.mem_cons_self
theorem jh:type_of% @List.pairwise_cons:=@List.pairwise_cons
theorem js:type_of% @List.getElem?_take_of_lt:=@List.getElem?_take_of_lt
theorem jt:type_of% @Nat.mul_comm:=@Nat.mul_comm
theorem ly:type_of% @Nat.pow_add:=@Nat.pow_add
theorem lz:type_of% @u64_and_nat:=@u64_and_nat
theorem mR:type_of% @Array.all_eq_true_iff_forall_mem:=@Array.all_eq_true_iff_forall_mem
theorem mS:type_of% @List.flatMap_cons:=@List.flatMap_cons
theorem mT:type_of% @List.take_add_one:=@List.take_add_one
theorem mU:type_of% @Region.noSelect_spec:=@Region.noSelect_spec
theorem mb:type_of% @Nat.eq_of_beq_eq_true:=@Nat.eq_of_beq_eq_true
theorem mq:type_of% @List.pairwise_iff_getElem:=@List.pairwise_iff_getElem
theorem nM:type_of% @ByteArray.toList_eq:=@ByteArray.toList_eq
theorem nO:type_of% @List.map_congr_left:=@List.map_congr_left
theorem nT:type_of% @List.drop_zero:=@List.drop_zero
theorem nU:type_of% @List.ext_getElem:=@List.ext_getElem
theorem nV:type_of% @List.getElem_mem:=@List.getElem_mem
theorem nY:type_of% @List.length_eq_zero_iff:=@List.length_eq_zero_iff
theorem nZ:type_of% @Nat.and_two_pow_sub_one_eq_mod:=@Nat.and_two_pow_sub_one_eq_mod
theorem o4:type_of% @Int.le_refl:=@Int.le_refl
theorem o5:type_of% @List.eq_nil_of_length_eq_zero:=@List.eq_nil_of_length_eq_zero
theorem o6:type_of% @Array.size_eq_zero_iff:=@Array.size_eq_zero_iff
theorem o7:type_of% @Nat.xor_lt_two_pow:=@Nat.xor_lt_two_pow
theorem oa:type_of% @Nat.div_eq_of_lt:=@Nat.div_eq_of_lt
theorem pM:type_of% @Nat.lt_irrefl:=@Nat.lt_irrefl
theorem pU:type_of% @List.mem_append_right:=@List.mem_append_right
theorem pz:type_of% @Nat.div_le_self:=@Nat.div_le_self
theorem q5:type_of% @wpQuiet_nil:=@wpQuiet_nil
theorem qY:type_of% @List.getElem?_append_right:=@List.getElem?_append_right
theorem qZ:type_of% @getD_set_ne:=@getD_set_ne
theorem qx:type_of% @IntKind.wrap_u32':=@IntKind.wrap_u32'
theorem qy:type_of% @of_decide_eq_true:=@of_decide_eq_true
theorem r5:type_of% @Array.length_toList:=@Array.length_toList
theorem r9:type_of% @List.flatten_append:=@List.flatten_append
theorem td:type_of% @Array.setIfInBounds_comm:=@Array.setIfInBounds_comm
theorem tk:type_of% @Int.natCast_pow:=@Int.natCast_pow
theorem tm:type_of% @Oper.upon_value:=@Oper.upon_value
theorem tr:type_of% @Array.ext':=@Array.ext'
theorem uq:type_of% @decide_eq_false_iff_not:=@decide_eq_false_iff_not
theorem vp:type_of% @Act.put_comm:=@Act.put_comm
theorem vq:type_of% @List.flatten_cons:=@List.flatten_cons
theorem vr:type_of% @Nat.add_zero:=@Nat.add_zero
theorem vt:type_of% @Nat.mul_zero:=@Nat.mul_zero
end Go
open Go.RowKit
namespace Go.Spk
open Go.RowKit
def Whole(w:World)(g:Nat)(t:TypeId)(cs:Array Value):Prop:=w.heap[g]?=some (.cells cs t (0,0))
theorem Whole.inside{w}{g}{t}{cs}(h:Whole w g t cs):g<w.heap.size:=by
 refine Nat.lt_of_not_le λa=> ?_;have:=Array.getElem?_eq_none a;unfold Whole at h;simp[this]at h
theorem Whole.at_{w}{g}{t}{cs}(h:Whole w g t cs)(i:Nat):w.cell? ⟨g,i,none⟩=cs[i]?:=cell_of_row w g i cs t (0,0) h
theorem Whole.free{w}{g}{t}{cs}(h:Whole w g t cs)(i:Nat):w.frozen? ⟨g,i,none⟩=false:=by
 unfold Whole at h;simp[World.frozen?,h]
theorem Whole.made(w:ay)(t:fg)(cs:gJ):Whole (w.alloc (.cells cs t)) w.heap.size t cs:=dR w _
theorem Whole.new{w:ay}{g}{t}{cs cs'}(a:w.heap.size=g)(b:cs=cs'):Whole (w.alloc (.cells cs t)) g t cs':=by
 subst a b;exact Whole.made w t cs
theorem Whole.stored{w}{g}{t}{cs}(h:Whole w g t cs)(i:Nat)(u:cH):Whole (w.setCell ⟨g,i,none⟩ u) g t (cs.setIfInBounds i u):=by
 unfold Whole at*;simp[World.setCell,Array.getElem?_modify,h]
theorem Whole.uw{w}{g}{t}{cs}(h:Whole w g t cs)(a:Addr)(b:a.block≠g)(u:cH):Whole (w.setCell a u) g t cs:=by
 unfold Whole at*;rw[Below.heap_setCell w a u g (gT b)];exact h
theorem Whole.alloc{w}{g}{t}{cs}(h:Whole w g t cs)(o:Obj):Whole (w.alloc o) g t cs:=by
 have:=Below.heap_alloc w o g h.inside;unfold Whole at*;rw[this];exact h
theorem Whole.drew{w}{g}{t}{cs}(h:Whole w g t cs):Whole w.drew g t cs:=h
theorem Whole.drewN{w}{g}{t}{cs}(h:Whole w g t cs)(n:Nat):Whole (w.drewN n) g t cs:=h
theorem Whole.below{w w'}{B g}{t}{cs}(h:Whole w g t cs)(a:Below B w w')(b:g<B):Whole w' g t cs:=by
 unfold Whole at*;rw[a.block g b];exact h
theorem Whole.only{w w'}{g}{r}{t}{cs}(h:Whole w g t cs)(a:w.grownBy w' r)(b:some g≠r):Whole w' g t cs:=by
 have:=a.block g h.inside b;unfold Whole at*;rw[this];exact h
theorem aZ{a b c:ay}{r}(h:a.grownBy b r)(k:b.grownBy c r):a.grownBy c r:=
 ⟨k.os.trans h.os,k.tape.trans h.tape,k.output.trans h.output,ap h.size k.size,λi e d=>(k.block i (aL e h.size) d).trans (h.block i e d)⟩
theorem iq{a w:ay}{r}(h:a.grownBy w r):a.grownBy w.drew r:=⟨h.os,h.tape,h.output,h.size,h.block⟩
theorem tX{a w:ay}{r}(h:a.grownBy w r)(n:Nat):a.grownBy (w.drewN n) r:=⟨h.os,h.tape,h.output,h.size,h.block⟩
theorem DP{a w:ay}{r}(h:a.grownBy w r)(o:Obj):a.grownBy (w.alloc o) r:=
 aZ h (eK w o r)
theorem aY{w:ay}{g}(p:Addr)(b:p.block=g)(u:cH):w.grownBy (w.setCell p u) (some g):=
 ⟨rfl,rfl,rfl,by simp[World.setCell],λi _ a=>Below.heap_setCell w p u i (λe=>a (by rw[e,b]))⟩
theorem bR{a w}(h:Below a.heap.size a w)(r:Option Nat):a.grownBy w r:=⟨h.os,h.tape,h.output,h.size,λi b _=>h.block i b⟩
theorem bA{B}{a w}(h:Below B a w)(n:Nat):Below B a (w.drewN n):=⟨h.os,h.tape,h.output,h.size,h.block⟩
def ix(ws:List Int)(i:Nat):Int:=ws.getD i 0
def ai(k:IntKind)(ws:List Int):Array Value:=(ws.map (Value.int k)).toArray
theorem ag(k:IntKind)(ws:aR):(ai k ws).size=ws.length:=by simp[ai]
theorem iP(k:IntKind)(ws:aR)(i:Nat)(h:i<ws.length):(ai k ws)[i]?=some (.int k (ix ws i)):=by
 simp[ai,ix,List.getD,h]
theorem ue(k:IntKind)(ws:aR)(i:Nat)(v:Int):(ai k ws).setIfInBounds i (.int k v)=ai k (ws.set i v):=by
 simp[ai,List.map_set]
structure eU(w W:World)(g:Nat)(t:TypeId)(k:IntKind)(ws:List Int):Prop where
 only:w.grownBy W (some g)
 et:Whole W g t (ai k ws)
section
variable {w W:World}{g:Nat}{t:TypeId}{k:IntKind}{ws:List Int}
theorem eU.start(h:Whole w g t (ai k ws)):eU w w g t k ws:=⟨ez w _,h⟩
theorem eU.set(h:eU w W g t k ws)(i:Nat)(v:Int):eU w (W.setCell ⟨g,i,none⟩ (.int k v)) g t k (ws.set i v):=
 ⟨aZ h.only (aY _ rfl _),by rw[<-ue];exact h.et.stored i _⟩
theorem eU.drew(h:eU w W g t k ws):eU w W.drew g t k ws:=⟨iq h.only,h.et⟩
theorem eU.drewN(h:eU w W g t k ws)(n:Nat):eU w (W.drewN n) g t k ws:=⟨tX h.only n,h.et⟩
theorem eU.alloc(h:eU w W g t k ws)(o:Obj):eU w (W.alloc o) g t k ws:=⟨DP h.only o,h.et.alloc o⟩
theorem eU.cell(h:eU w W g t k ws)(i:Nat)(a:i<ws.length):W.cell? ⟨g,i,none⟩=some (.int k (ix ws i)):=by
 rw[h.et.at_,iP k ws i a]
theorem eU.step{n}(h:eU w W g t k ws)(hl:ws.length=n)(i:Nat)(v:Int):
 ∃b a,b=(W.setCell ⟨g,i,none⟩ (.int k v)).drew/\a=ws.set i v/\eU w b g t k a/\a.length=n:=
 ⟨_,_,rfl,rfl,(h.set i v).drew,by simp[hl]⟩
theorem eU.frozen(h:eU w W g t k ws)(i:Nat):W.frozen? ⟨g,i,none⟩=false:=h.et.free i
end
def Rd(w:World)(A:Option Addr)(xs:List Value):Prop:=xs≠ []-> ∃a,A=some a/\a.block<w.heap.size/\ ∀j u,xs[j]?=some u->w.cell? (a.add j)=some u
theorem Np(a:Addr)(n:Nat):(a.add n).block=a.block:=by unfold Addr.add;split<;>rfl
theorem Rd.at_{w}{A}{xs}(h:Rd w A xs){k}(b:k<xs.length):∃a,A=some a/\a.block<w.heap.size/\w.cell? (a.add k)=some xs[k]:=by
 obtain⟨a,e,c,d⟩:=h (by rintro rfl;simp at b);exact⟨a,e,c,d k _ (aQ b)⟩
theorem Rd.below{w w'}{A}{xs}(h:Rd w A xs)(c:Below w.heap.size w w'):Rd w' A xs:=λb=>by
 obtain⟨d,e,a,f⟩:=h b;exact⟨d,e,aL a c.size,λj u g=>(c.cell (by rw[Np];exact a)).trans (f j u g)⟩
theorem Rd.pj{w}{base size}{e}{A}{n c}{xs}(h:w.ownsRow base e size (.slice A n c) n xs)(d:xs≠ []->0<n):Rd w A xs:=λa=>by
 obtain⟨g,cap,f,_,b⟩:=h.form (d a);injection f with i _ _;subst i;exact⟨_,rfl,b,h.cells (g:=g) rfl⟩
theorem aU{P}{c:Code}{Q}{a}{w}(F:World->Prop)(h:F w)(k:∀W,F W->c.wp P Q a W):c.wp P Q a w:=k w h
theorem Whole.row{w}{g}{t}{cs new}(h:Whole w g t cs):Whole (w.setRow g new) g t new:=setRow_heap w g cs new t _ h
theorem bW(w:ay)(g:Nat)(cs:gJ):w.grownBy (w.setRow g cs) (some g):=
 ⟨rfl,rfl,rfl,bj,λi _ a=>setRow_other w g i cs (λe=>a (by rw[e]))⟩
theorem eU.other{w W}{g g'}{t t'}{k}{ws}{cs}(h:eU w W g t k ws)(b:Whole w g' t' cs)(a:g'≠g):Whole W g' t' cs:=
 b.only h.only (λe=>a (by injection e))
theorem eU.below{w W}{g}{t}{k}{ws}{w0}{B}(h:eU w W g t k ws)(b:Below B w0 w)(d:B<=g)(c:B<=w.heap.size):Below B w0 W:=
 b.grown h.only c (λk a=>by injection a with a;omega)
theorem Whole.int{w}{g}{t}{k}{ws}(h:Whole w g t (ai k ws))(i:Nat)(a:i<ws.length):w.cell? ⟨g,i,none⟩=some (.int k (ix ws i)):=by
 rw[h.at_,iP k ws i a]
theorem rH{a}(h:∀b∈a,0<=b/\b<=255)(i:Nat):0<=ix a i/\ix a i<=255:=by
 unfold ix
 by_cases c:i<a.length
 .rw[show a.getD i 0=a[i]from by simp[List.getD,c]];exact h _ (nV c)
 .rw[show a.getD i 0=0 from by simp[List.getD,Nat.le_of_not_lt c]];omega
theorem bE{a b:Nat}(h:a≠b):some a≠some b:=by grind
def Sz(w:World)(n:Nat):Prop:=w.heap.size=n
theorem Sz.set{w}{n}(h:Sz w n)(a:Addr)(u:cH):Sz (w.setCell a u) n:=by unfold Sz at*;simpa[World.setCell]using h
theorem Sz.drew{w}{n}(h:Sz w n):Sz w.drew n:=h
theorem Sz.drewN{w}{n}(h:Sz w n)(m:Nat):Sz (w.drewN m) n:=h
theorem Sz.alloc{w}{n}(h:Sz w n)(o:Obj):Sz (w.alloc o) (n+1):=by unfold Sz at*;simp[h]
theorem Sz.row{w}{n}(h:Sz w n)(g:Nat)(cs:gJ):Sz (w.setRow g cs) n:=by unfold Sz at*;simp[h]
theorem cT{w w'}{b o}{cs}(h:w.rangeAt b o cs)(c:Below w.heap.size w w'):w'.rangeAt b o cs:=λj v d=>by
 have a:=h j v d;exact(c.cell (aH a)).trans a
section
variable {P:Program}{t e:TypeId}{n:Nat}
theorem UA(a:P.underlying t=some (.array n e)):P.arrayLen t=n/\P.elem t=e:=by
 simp[Program.arrayLen,Program.elem,a]
theorem SM{w}(a:(P.info? e).map (·.size)=some 1):(sizeOf e).run P w= .ok 1 w:=by
 cases b:P.info? e with
 |none=>simp[b]at a
 |some i=>simp[b]at a;simp[sizeOf,typeInfo,b,a]
theorem uh(c:P.underlying t=some (.array n e))(h:(P.info? e).map (·.size)=some 1)(g:Nat)(l:Nat)(hl:l<n)(d:Int)(a:d=l)(w:ay):
 (Instr.sliceAt t (.pointer (some ⟨g,0,none⟩)) (some (.int .i64 d)) none none).run P w= .ok (.slice (some ⟨g,l,none⟩) (n -l) (n -l)) w:=by
 obtain⟨b,f⟩:=UA c;rw[run_sliceAt_array_l w t _ (by rw[b,f];exact c) _ _ af (by rw[b];omega),b,f,SM h];subst a;simp[slicedAt,Nat.ne_of_gt hl,Addr.add_mid]
end
def bI(s:ByteArray):List Int:=s.data.toList.map λb=>(b.toNat:Int)
def jr(a:List Int):Prop:= ∀i,0<=ix a i/\ix a i<=255
theorem aj(s:bB):(bI s).length=s.size:=by show _=s.data.size;simp[bI]
theorem cm{a}(h:∀b∈a,0<=b/\b<=255):jr a:=rH h
theorem c8(s:bB):jr (bI s):=rH λb a=>by
 simp only[bI,List.mem_map]at a;obtain⟨c,_,rfl⟩:=a;have:=c.toNat_lt;omega
theorem fq(s:bB):strOfNums (bI s)=s:=by
 have:(bI s).map (λn=>UInt8.ofNat n.toNat)=s.data.toList:=by
  simp only[bI,List.map_map]
  conv=>rhs;rw[<-List.map_id s.data.toList]
  apply nO;intro b _;simp
 unfold strOfNums;rw[this]
theorem AV(s:bB)(i:Nat)(h:i<s.size):ix (bI s) i=((s[i]'h).toNat:Int):=by
 have a:i<s.data.size:=h;have e:s.data[i]?=some s.data[i]:=gv a;simp[ix,bI,List.getD,e]
 rfl
theorem cJ{xs}(h:∀b∈xs,0<=b/\b<=255):bI (strOfNums xs)=xs:=by
 unfold bI;rw[strOfNums_data,List.map_map]
 conv=>rhs;rw[<-List.map_id xs]
 apply nO;intro b a;have:=h b a;simp;omega
theorem cY{a}(h:jr a):∀b∈a,0<=b/\b<=255:=by
 intro b c;obtain⟨i,d,rfl⟩:=List.mem_iff_getElem.1 c;have:=h i;simpa[ix,List.getD,d]using this
def rY(w:World)(g:Nat)(t:TypeId)(m:Nat)(ws:List Int):Prop:=w.heap[g]?=some (.cells (ai .u8 ws) t (m,m+1))/\ws.length<=m
section
variable {w w':World}{g:Nat}{t:TypeId}{m:Nat}{ws:List Int}
theorem rY.inside(h:rY w g t m ws):g<w.heap.size:=by
 refine Nat.lt_of_not_le λa=> ?_;have:=Array.getElem?_eq_none a;have b:=h.1;simp[this]at b
theorem rY.cell(h:rY w g t m ws)(i:Nat)(a:i<ws.length):w.cell? ⟨g,i,none⟩=some (.int .u8 (ix ws i)):=by
 rw[cell_of_row w g i _ t _ h.1,iP _ ws i a]
theorem rY.frozen(h:rY w g t m ws)(i:Nat)(a:i<ws.length):w.frozen? ⟨g,i,none⟩=false:=by
 have b:=h.2;simp[World.frozen?,h.1];omega
theorem rY.set(h:rY w g t m ws)(i:Nat)(v:Int):rY (w.setCell ⟨g,i,none⟩ (.int .u8 v)) g t m (ws.set i v):=by
 refine⟨?_,by rw[dx];exact h.2⟩;rw[<-ue];simp[World.setCell,Array.getElem?_modify,h.1]
theorem rY.other(h:rY w g t m ws){r}(a:w.grownBy w' r)(b:some g≠r):rY w' g t m ws:=⟨(a.block g h.inside b).trans h.1,h.2⟩
theorem rY.drew(h:rY w g t m ws):rY w.drew g t m ws:=h
theorem rY.alloc(h:rY w g t m ws)(o:Obj):rY (w.alloc o) g t m ws:=⟨(Below.heap_alloc w o g h.inside).trans h.1,h.2⟩
theorem rY.below{B}(h:rY w g t m ws)(a:Below B w w')(b:g<B):rY w' g t m ws:=⟨(a.block g b).trans h.1,h.2⟩
end
theorem yJ(s:bB)(c:Nat):bytesRow s c=ai .u8 (bI s++List.replicate (c -s.size) 0):=by
 unfold bytesRow ai bI;apply tr;simp[Function.comp_def]
theorem rY.made{w:ay}{g}(a:w.heap.size=g)(s:bB)(c:Nat)(e:fg):
 rY (w.alloc (.cells (bytesRow s c) e ((bytesRow s c).size,(bytesRow s c).size+1))).drew g e (bytesRow s c).size (bI s++List.replicate (c -s.size) 0):=by
 subst a;refine⟨?_,?_⟩
 .rw[yJ];exact dR w _
 .rw[yJ,ag];exact ak _
theorem jk(a b:aR)(i:Nat)(h:i<a.length):ix (a++b) i=ix a i:=by
 simp[ix,List.getD,List.getElem?_append_left h]
theorem lW(l:aR)(i j:Nat)(v:Int)(h:i<l.length):ix (l.set i v) j=if j=i then v else ix l j:=by
 unfold ix List.getD;rw[List.getElem?_set]
 by_cases e:i=j
 .subst e;simp[h]
 .simp[e,Ne.symm e]
theorem sv{a b}(hl:a.length=b.length)(h:∀i,i<a.length->ix a i=ix b i):a=b:=by
 apply nU hl;intro i c d;have:=h i c;simpa[ix,List.getD,c,d]using this
def Own(w:World)(B:Nat)(e:TypeId)(k:IntKind)(g n cap:Nat)(xs:List Int):Prop:=
 w.ownsRow B e 1 (.slice (some ⟨g,0,none⟩) n cap) n (xs.map (Value.int k))
section
variable {w w':World}{B:Nat}{e:TypeId}{k:IntKind}{g n cap:Nat}{xs:List Int}
theorem Own.len(h:Own w B e k g n cap xs):xs.length=n:=by have:=h.1;simpa using this
theorem Own.lt(h:Own w B e k g n cap xs):B<=g/\g<w.heap.size:=World.ownsRow.lt h g (by simp[Value.ownBlock])
theorem Own.room(h:Own w B e k g n cap xs):n<=cap/\cap<=maxLen:=by
 rcases h.2 with⟨a,_⟩|⟨i,b,c,a,_,_,d,f,_⟩
 .simp at a
 .simp only[Value.slice.injEq,Option.some.injEq,Addr.mk.injEq,and_true,true_and]at a;obtain⟨rfl,rfl⟩:=a;exact⟨d,f⟩
theorem Own.cell(h:Own w B e k g n cap xs)(i:Nat)(a:i<n):w.cell? ⟨g,i,none⟩=some (.int k (ix xs i)):=by
 have b:=h.len;have c:=World.ownsRow.cellAt (w:=w) h i af;rw[c];simp[ix,List.getD,b,a]
theorem Own.set(h:Own w B e k g n cap xs)(i:Nat)(v:Int):Own (w.setCell ⟨g,i,none⟩ (.int k v)) B e k g n cap (xs.set i v):=by
 have:=(World.ownsRow.stored (w:=w) h i (.int k v)).1;rwa[show(xs.map (Value.int k)).set i (.int k v)=(xs.set i v).map (Value.int k) by rw[List.map_set]]at this
theorem Own.only(h:Own w B e k g n cap xs){r}(a:w.grownBy w' r)(b:some g≠r):Own w' B e k g n cap xs:=
 World.ownsRow.kept (w:=w) h a (.inr (by simpa[Value.ownBlock]using b))
theorem Own.alloc(h:Own w B e k g n cap xs)(o:Obj):Own (w.alloc o) B e k g n cap xs:=h.only (eK w o none) bj
theorem Own.below{B'}(h:Own w B e k g n cap xs)(f:Below B' w w')(i:g<B'):Own w' B e k g n cap xs:=by
 obtain⟨j,b⟩:=h;refine⟨j,?_⟩;rcases b with b|⟨l,a,c,d,m,o,p⟩
 .exact .inl b
 .refine .inr ⟨l,a,c,d,m,?_,p⟩;simp only[Value.slice.injEq,Option.some.injEq,Addr.mk.injEq,and_true,true_and]at d;obtain⟨rfl,_⟩:=d;rw[f.block g i];exact o
theorem Own.made{cs}{m}(a:w.heap.size=g)(b:B<=g)(hm:m<=maxLen)(c:cs=ai k xs)(d:xs.length=m):Own (w.alloc (.cells cs e)) B e k g m m xs:=by
 subst a c;have:=World.ownsRow_lit (base:=B) (e:=e) (size:=1) w (ai k xs) m b hm (by rw[ag];omega);simpa[Own,ai]using this
theorem Own.rd(h:Own w B e k g n cap xs):Rd w (some ⟨g,0,none⟩) (xs.map (Value.int k)):=Rd.pj (w:=w) h (λb=>by
 have:=h.len;cases xs with
 |nil=>exact absurd rfl b
 |cons a l=>simp at this;omega)
end
theorem Own.news{w}{B}{e}{k}{g n cap}{xs}(h:Own w B e k g n cap xs):∀j,j<xs.length->w.cell? ((⟨g,0,none⟩:Addr).add j)=some (.int k (ix xs j)):=
 λj a=>by rw[Addr.add_mid,aW];exact h.cell j (by rw[<-h.len];exact a)
section
variable {P:Program}{ops:Array Oper}{C:World->Prop}{Q:Act->Prop}
theorem qj{o}{a}{K}{b}(c:Region.wanted o (yielded ops a.tmps)=true)(h:∃v,(∀w,C w->o.quietAt P a C w v)/\K (a.put o.dst v)):
 if Region.wanted o (yielded ops a.tmps)then o.quiet P a C K else K b:=by
 rw[aJ c];exact h
theorem aD{o}{a}{w}{v}(h:(execOp a.eval o).run P w= .ok (.value v) w):o.quietAt P a C w v:=by
 unfold Oper.quietAt;rw[h];exact⟨rfl,rfl⟩
theorem cZ{o}{a}{w}{v}{f}{args}(h:(execOp a.eval o).run P w= .ok (.enter f args) w)(c:Calls P f args w (λe b=>e= .returned v/\C b)):o.quietAt P a C w v:=by
 unfold Oper.quietAt;rw[h];exact⟨rfl,c⟩
theorem iI{id}{Q}{a}{w}{l}(C:World->Prop)(hm:P.follows .mixedOrders=true)(b:Region.lexB .any l.toArray=true)
 (c:C w.drew) (h:wpQuiet P l.toArray C (λd=> ∀w',C w'->Q .normal d w') l a):(Code.region id l.toArray true).wp P Q a w:=
 wp_region_quiet (C:=C) hm b c (ek h)
end
section
variable {P:Program}{ops:Array Oper}{md:Region.Mode}{S:Type}{Cl:S->World->Prop}
def nu(P:Program)(Cl:S->World->Prop)(K:Value->S->Prop):Result Next->Prop
 | .ok (.value u) w'=> ∃a,Cl a w'/\K u a
 | .ok .skip w'=> ∃a,Cl a w'/\K undef a
 | .ok (.enter f args) w'=>Calls P f args w' (λe b=> ∃v a,e= .returned v/\Cl a b/\K v a)
 |_=>False
theorem ve{K g}(h:∀v s,K v s->g v s){r}(a:nu P Cl K r):nu P Cl g r:=by
 cases r with
 |ok n w'=>
  cases n<;>simp only[nu]at a⊢
  case value u=>obtain⟨b,c,d⟩:=a;exact⟨b,c,h _ _ d⟩
  case skip=>obtain⟨b,c,d⟩:=a;exact⟨b,c,h _ _ d⟩
  case enter f args=>exact a.mono λe i ⟨v,b,j,c,d⟩=>⟨v,b,j,c,h _ _ d⟩
 |halt x w'=>simp only[nu]at a
def DD(P:Program)(ops:Array Oper)(Cl:S->World->Prop)(i:Nat)(K:Act->S->Prop)(a:Act)(s:S):Prop:=
 match ops[i]? with
 |none=>K a s
 |some o=>if Region.wanted o (yielded ops a.tmps)then∀w,Cl s w->nu P Cl (λv b=>K (a.put o.dst v) b) ((execOp a.eval o).run P w)else K (a.put o.dst undef) s
theorem G9{i}{a}{s}{K e}(h:∀a s,K a s->e a s)(b:DD P ops Cl i K a s):DD P ops Cl i e a s:=by
 unfold DD at*
 split
 .exact h _ _ (by simpa[*]using b)
 .rename_i o f;simp only[f]at b
  split
  .rename_i c;simp only[c,if_true]at b;exact λw d=>ve (λv g=>h _ _) (b w d)
  .rename_i c;simp only[c]at b;exact h _ _ b
def mF(P:Program)(md:Region.Mode)(ops:Array Oper)(Cl:S->World->Prop)(Q:Act->S->Prop):Nat->Array Bool->Act->S->Prop
 |0,b,a,s=>Region.ready md ops b= []/\Q a s
 |fuel+1,b,a,s=>
  (Region.ready md ops b= []->Q a s)/\
  ∀i∈Region.ready md ops b,DD P ops Cl i (mF P md ops Cl Q fuel (b.setIfInBounds i true)) a s
theorem zn{i}{a}{s}{K}{p}{Q'}{w}(k:Cl s w)(h:∀a c w',Cl c w'->K a c->p a w')(b:DD P ops Cl i K a s):wpOp P ops Q' i p a w:=by
 unfold DD at b;unfold wpOp
 split
 .rename_i l;simp only[l]at b;exact h _ _ _ k b
 .rename_i o l;simp only[l]at b
  split
  .rename_i m;simp only[m,if_true]at b;refine .inl ?_;have d:=b w k;unfold Oper.wp;generalize(execOp a.eval o).run P w=r at*;cases r with
   |ok n w'=>
    cases n<;>simp only[nu]at d<;>simp only[Oper.upon]
    case value u=>obtain⟨c,g,j⟩:=d;exact h _ _ _ g j
    case skip=>obtain⟨c,g,j⟩:=d;exact h _ _ _ g j
    case enter f args=>exact d.mono λe q ⟨v,c,t,g,j⟩=>by subst t;exact h _ _ _ g j
   |halt x w'=>simp only[nu]at d
  .rename_i m;simp only[m]at b;exact h _ _ _ k b
theorem vT{Q:Act->S->Prop}{Q':Exit->Act->World->Prop}(c:∀a s w,Cl s w->Q a s->Q' .normal a w):∀(fuel:Nat) (listed:Array Bool) (a:Act) (s:S) (w:World),Cl s w->
 mF P md ops Cl Q fuel listed a s->wpAny P md ops Q' fuel listed a w
 |0,_,_,_,_,b,h=>⟨h.1,c _ _ _ b h.2⟩
 |fuel+1,_,_,_,_,b,h=>⟨λe=>c _ _ _ b (h.1 e),λi f=>zn b (λg j w' d=>vT c fuel _ g j w' d) (h.2 i f)⟩
def ir(P:Program)(ops:Array Oper)(Cl:S->World->Prop)(o:Oper)(v:Value)(a:Act):Prop:=
 (Region.wanted o (yielded ops a.tmps)=true/\ ∀s w,Cl s w->o.quietAt P a (Cl s) w v)\/
 (Region.wanted o (yielded ops a.tmps)=false/\v=undef)
theorem ir.DD{i}{o}{v}{a}{s}(l:ops[i]?=some o)(m:ir P ops Cl o v a){K}(h:K (a.put o.dst v) s):DD P ops Cl i K a s:=by
 unfold Go.Spk.DD;simp only[l];rcases m with⟨g,p⟩|⟨g,rfl⟩
 .simp only[g,if_true];intro w j;have b:=p s w j;unfold Oper.quietAt at b;generalize(execOp a.eval o).run P w=r at*;cases r with
  |ok n w'=>
   cases n<;>simp only[Oper.quietUpon]at b<;>simp only[nu]
   case value u=>obtain⟨c,k⟩:=b;subst c k;exact⟨s,j,h⟩
   case skip=>obtain⟨c,k⟩:=b;subst c k;exact⟨s,j,h⟩
   case enter f args=>obtain⟨c,q⟩:=b;subst c;exact q.mono λe t ⟨y,d⟩=>⟨v,s,y,d,h⟩
  |halt x w'=>simp only[Oper.quietUpon]at b
 .simp only[g,Bool.false_eq_true,if_false];exact h
theorem ir.of_same{o}{v}{a a'}(b:ir P ops Cl o v a)(he:execOp a'.eval o=execOp a.eval o)
 (c:Region.wanted o (yielded ops a'.tmps)=Region.wanted o (yielded ops a.tmps)):ir P ops Cl o v a':=by
 unfold ir Oper.quietAt at*;rw[he,c];exact b
theorem Vf{j}{c d}{v}(x:ops[j]?=some d)(g:c.apart ops d=true)
 (i:∀k b,c.op≠ .select k b) (l:∀k b,d.op≠ .select k b) {K} {a} {s}
 (f:ir P ops Cl c v a) (h:DD P ops Cl j K (a.put c.dst v) s):
 DD P ops Cl j (λn o=>ir P ops Cl c v n/\K (n.put c.dst v) o) a s:=by
 obtain⟨p,q,r⟩:=jZ g
 have e:∀(a:Act),ir P ops Cl c v a-> ∀u,ir P ops Cl c v (a.put d.dst u):=λa f u=>
  f.of_same (execOp_put c i a d.dst u r) (wanted_put c a d.dst u r)
 unfold DD at*;simp only[x]at*;rw[wanted_put d a c.dst v p]at h
 split
 .rename_i m;simp only[m,if_true]at h;intro w y;have t:=h w y;rw[execOp_put d l a c.dst v p]at t;exact ve (λu o z=>⟨e a f u,by rw[<-vp a v u q];exact z⟩) t
 .rename_i m;simp only[m]at h;exact⟨e a f _,by rw[<-vp a v undef q];exact h⟩
theorem xB{Q}{i}{t}{v}(D:ops[i]?=some t)(l:∀(j:Nat) (o:Oper) u b,ops[j]?=some o->o.op≠ .select u b):
 ∀(c:Nat) (listed:rX) (a:Act) (s:S),
  (∀j n,ops[j]?=some n->j≠i->listed.getD j true=false->(∀e∈n.after,Region.binds md e=true->e.on≠i)->t.apart ops n=true)->
  i∈Region.ready md ops listed->ir P ops Cl t v a->
  mF P md ops Cl Q c (listed.setIfInBounds i true) (a.put t.dst v) s->mF P md ops Cl Q (c+1) listed a s:=by
 intro c
 induction c with
 |zero=>
  intro listed a s _ p B H;refine⟨λh=>(by rw[h]at p;cases p),λj C=> ?_⟩
  by_cases d:j=i
  .subst d;exact B.DD D H
  .have:=j0 C d;rw[H.1]at this;cases this
 |succ c L=>
  intro listed a s f p B H;refine⟨λh=>(by rw[h]at p;cases p),λj C=> ?_⟩
  by_cases d:j=i
  .subst d;exact B.DD D H
  .have q:=H.2 j (j0 C d);obtain⟨m,n,r,w⟩:=dj.1 C
   have x:∀e∈n.after,Region.binds md e=true->e.on≠i:=λe M N E=>by
    have q:=w e M N;have J:=(dj.1 p).1;rw[E]at q;rcases Nat.lt_or_ge i listed.size with F|F
    .simp[F]at J q;rw[J]at q;cases q
    .simp[Array.getElem?_eq_none F]at q
   have O:=Vf r (f j n r d m x) (λu b=>l i t u b D) (λu b=>l j n u b r) B q
   have g:∀k y,ops[k]?=some y->k≠i->(listed.setIfInBounds j true).getD k true=false->
    (∀e∈y.after,Region.binds md e=true->e.on≠i)->t.apart ops y=true:=λk y R G z I=>by
    refine f k y R G ?_ I
    by_cases A:j=k
    .subst A;exact m
    .rw[qZ true A]at z;exact z
   refine G9 (λU V K=>L (listed.setIfInBounds j true) U V g (j0 p (gT d)) K.1 ?_) O;rw[td _ _ d];exact K.2
def vN(P:Program)(o:Oper)(a:Act)(Cl:S->World->Prop)(next:Act->Prop):Prop:= ∃v,(∀s w,Cl s w->o.quietAt P a (Cl s) w v)/\next (a.put o.dst v)
def jO(P:Program)(ops:Array Oper)(Cl:S->World->Prop)(Q:Act->Prop):List Oper->Act->Prop
 | [],a=>Q a
 |o::b,a=>if Region.wanted o (yielded ops a.tmps)then vN P o a Cl (jO P ops Cl Q b)else jO P ops Cl Q b (a.put o.dst undef)
def jP(P:Program)(ops:Array Oper)(Cl:S->World->Prop)(Q:Act->S->Prop):List Oper->Act->S->Prop
 | [],a,s=>Q a s
 |o::b,a,s=>if Region.wanted o (yielded ops a.tmps)then∀w,Cl s w->nu P Cl (λv c=>jP P ops Cl Q b (a.put o.dst v) c) ((execOp a.eval o).run P w)else jP P ops Cl Q b (a.put o.dst undef) s
theorem vo{Q:Act->S->Prop}:∀(l:List Oper) (k:Nat) (listed:rX) (a:Act) (s:S),(∀j,l[j]?=ops[k+j]?)->
 Region.seqB md ops l.length k listed=true->jP P ops Cl Q l a s->mF P md ops Cl Q l.length listed a s
 | [],_,_,_,_,_,b,h=>⟨by simpa[Region.seqB]using b,h⟩
 |o::l,k,listed,a,s,d,b,h=>by
  have g:ops[k]?=some o:=by simpa using(d 0).symm
  simp only[List.length_cons,Region.seqB,Bool.and_eq_true,decide_eq_true_eq]at b;refine⟨λe=>(by rw[b.1]at e;cases e),λi f=> ?_⟩;rw[b.1]at f;have c:i=k:=by simpa using f
  subst c;have m:DD P ops Cl i (jP P ops Cl Q l) a s:=by unfold DD;simp only[g];exact h
  exact G9 (λn p q=>vo l (i+1) _ n p (λj=>by have:=d (j+1);simpa[Nat.add_assoc,Nat.add_comm 1 j]using this) b.2 q) m
theorem BJ{Q:Act->S->Prop}{g:Nat}{L:Act->S->Prop}(m:Region.noSelect ops=true)(s:S)
 (n:∀listed a k,Region.seqB md ops g k listed=true->k+g=ops.size->L a s->mF P md ops Cl Q g listed a s):
 ∀(l:List Oper) (k:Nat) (listed:rX) (a:Act),(∀j,j<l.length->l[j]?=ops[k+j]?)->k+l.length+g=ops.size->
  Region.lexHead md ops g l.length k listed=true->jO P ops Cl (λd=>L d s) l a->mF P md ops Cl Q (l.length+g) listed a s
 | [],k,listed,a,_,e,b,h=>by
  rw[List.length_nil,aW];exact n listed a k (by simpa[Region.lexHead]using b) (ek e) h
 |o::l,k,listed,a,p,e,b,h=>by
  have q:ops[k]?=some o:=by simpa using(p 0 bj).symm
  simp only[List.length_cons,Region.lexHead,Bool.and_eq_true]at b;obtain⟨⟨r,t⟩,f⟩:=b
  have i:∃v,ir P ops Cl o v a/\jO P ops Cl (λd=>L d s) l (a.put o.dst v):=by
   simp only[jO]at h
   by_cases c:Region.wanted o (yielded ops a.tmps)=true
   .rw[aJ c]at h;obtain⟨v,u,w⟩:=h;exact⟨v,.inl ⟨c,u⟩,w⟩
   .rw[aq c]at h;exact⟨undef,.inr ⟨by simpa using c,rfl⟩,h⟩
  obtain⟨v,i,x⟩:=i
  have:=BJ m s n l (k+1) (listed.setIfInBounds k true) (a.put o.dst v) (λj y=>by have:=p (j+1) (by simp;omega);simpa[Nat.add_assoc,Nat.add_comm 1 j]using this)
   (by simp only[List.length_cons]at e;omega) f x
  rw[fw,show l.length+1+g=(l.length+g)+1 by omega];exact xB q (mU m) (l.length+g) listed a s (Region.free_spec q t) (ek r) i this
def Dx(ops:Array Oper)(n:Nat):Bool:=
 Region.noSelect ops&&decide (n<ops.size)&&Region.lexHead .any ops (ops.size -n) n 0 (Array.replicate ops.size false)
theorem dQ{id}{Q}{a}{w}{l:List Oper}(n:Nat)(Cl:S->World->Prop)(s:S)(hm:P.follows .mixedOrders=true)(q:Dx l.toArray n=true)
 (t:Cl s w.drew) (h:jO P l.toArray Cl (λd=>jP P l.toArray Cl (λa s=> ∀w,Cl s w->Q .normal a w) (l.drop n) d s) (l.take n) a):(Code.region id l.toArray true).wp P Q a w:=by
 simp only[Dx,Bool.and_eq_true,decide_eq_true_eq]at q;obtain⟨⟨u,v⟩,e⟩:=q;have x:n<l.length:=by simpa using v
 have b:(l.take n).length=n:=by simp;omega
 have f:(l.drop n).length=l.toArray.size -n:=bj;have y:l.toArray.size=l.length:=bj;refine wp_region_any hm (vT (Cl:=Cl) (Q:=λa s=> ∀w,Cl s w->Q .normal a w) (λa s w m h=>h w m) _ _ _ s _ t ?_)
 have H:=BJ (P:=P) (md:= .any) (Q:=λa s=> ∀w,Cl s w->Q .normal a w) (ops:=l.toArray) (g:=l.toArray.size -n) (L:=λd s=>jP P l.toArray Cl (λa s=> ∀w,Cl s w->Q .normal a w) (l.drop n) d s) u s
  (
   λc d k i z m=>by
   have o:k=n:=af;subst o;have:=vo (md:= .any) (l.drop k) k c d s (λj=>by simp[List.getElem?_drop]) (by rw[f];exact i) m;rwa[f]at this)
  (
   l.take n) 0 (Array.replicate l.toArray.size false) a (λj r=>by
   have p:j<n:=by rw[b]at r;exact r
   simp[p]) (by rw[b];omega) (by rw[b];exact e) h
 rw[b,show n+(l.toArray.size -n)=l.toArray.size by omega]at H;exact H
end
def Mk(w:World)(t:TypeId):Option (Nat×Array Value)->World->Prop
 |none,W=>Below w.heap.size w W
 |some (p,a),W=>Below w.heap.size w W/\w.heap.size<=p/\Whole W p t a
section
variable {P:Program}{ops:Array Oper}{w:World}{t:TypeId}
theorem Mk.base{s}{W}(h:Mk w t s W):Below w.heap.size w W:=by
 cases s with
 |none=>exact h
 |some q=>exact h.1
theorem Mk.iC{s}{W W'}(h:Mk w t s W)(b:Below W.heap.size W W'):Mk w t s W':=by
 have a:=h.base;cases s with
 |none=>exact a.trans (b.mono a.size)
 |some q=>exact⟨a.trans (b.mono a.size),h.2.1,h.2.2.below b h.2.2.inside⟩
theorem Mk.start(w:ay)(t:fg):Mk w t none w.drew:=bA (aw _ w) 1
theorem bS{S}{Cl:S->World->Prop}{Q}{a}{o}{rest}
 (h:∀K:Act->Prop,(∀a,jO P ops Cl Q rest a->K a)->if Region.wanted o (yielded ops a.tmps)then vN P o a Cl K else K (a.put o.dst undef)):jO P ops Cl Q (o::rest) a:=
 h _ (λ_ h=>h)
theorem ft{S}{Cl:S->World->Prop}{Q}{a}(h:Q a):jO P ops Cl Q [] a:=h
theorem lG{S}{Cl:S->World->Prop}{o}{a}{K}{b}(c:Region.wanted o (yielded ops a.tmps)=true)(h:∃v,(∀s w,Cl s w->o.quietAt P a (Cl s) w v)/\K (a.put o.dst v)):
 if Region.wanted o (yielded ops a.tmps)then vN P o a Cl K else K b:=by
 rw[aJ c];exact h
theorem jX{s}{o}{a}{W}{v}{f}{args}(h:(execOp a.eval o).run P W= .ok (.enter f args) W)(c:Mk w t s W)
 (d:Calls P f args W (λe b=>e= .returned v/\Below W.heap.size W b)):o.quietAt P a (Mk w t s) W v:=by
 unfold Oper.quietAt;rw[h];exact⟨rfl,d.mono λe b ⟨g,i⟩=>⟨g,c.iC i⟩⟩
theorem tQ{Q}{i e}{a}(y:Operand)(d:Tmp)(z cs:gJ)
 (h1:Region.wanted i (yielded ops a.tmps)=true) (j:i.dst=some d) (o:∀W,(execOp a.eval i).run P W= .ok (.value (.pointer (some ⟨W.heap.size,0,none⟩))) (W.alloc (.cells z t)))
 (r:∀p,Region.wanted e (yielded ops (a.put (some d) (.pointer (some ⟨p,0,none⟩))).tmps)=true) (s:e.op= .store t (.tmp d) y) (l:e.dst=none)
 (u:∀p,(a.put (some d) (.pointer (some ⟨p,0,none⟩))).eval (.tmp d)= .pointer (some ⟨p,0,none⟩)) (v:∀p,(a.put (some d) (.pointer (some ⟨p,0,none⟩))).eval y= .agg cs)
 (x:(P.info? t).map (·.size)=some cs.size) (f:z.size=cs.size) (g:cs.all (·.oneCell')=true)
 (k:∀p,Q (a.put (some d) (.pointer (some ⟨p,0,none⟩))) (some (p,cs))):jP P ops (Mk w t) Q [i,e] a none:=by
 simp only[jP,h1,if_true];intro W A;rw[o W];have c:Below w.heap.size w W:=A;refine⟨some (W.heap.size,z),⟨c.trans (((aw _ W).alloc (ak _) _).mono c.size),c.size,Whole.made W t z⟩,?_⟩;rw[j];simp only[r,if_true];intro m b
 have h:(execOp (a.put (some d) (.pointer (some ⟨W.heap.size,0,none⟩))).eval e).run P m= .ok .skip (m.setRow W.heap.size cs):=by
  unfold execOp;simp only[s,u,v,Instr.storeAt,Instr.sureAddr,Sem.run_bind,Sem.run_pure,Result.andThen_ok,run_storeVar_row m W.heap.size t t z cs b.2.2 x f g]
 rw[h];refine⟨some (W.heap.size,cs),⟨b.1.grown (bW _ _ _) b.1.size (λq n=>by injection n with n;subst n;exact c.size),b.2.1,b.2.2.row⟩,?_⟩;rw[l];exact k _
end
open Go.ChangeShapes Go.WideShapes
section
variable {H:Type}{enc:TypeId×Value->H}{P:Program}{w:World}{base:Nat}{sp:Nat->Bool}{held:Bool}
theorem RM{t e}{n}{k}{v}{d}{ps}(I:P.underlying t=some (.array n e))(he:P.underlying e=some (.int k))(o:P.cellsOf e=1)(p:P.cellsOf t=n)(N:n≠1)
 (h:DataW.Trod enc P w base sp held t v d ps):∃ws:List Int,ws.length=n/\v= .agg (ai k ws)/\d= .agg (ws.map λz=> .lit (.int k z))/\ps= []/\ ∀z∈ws,(Lit.int k z).wf=true:=by
 obtain⟨B,C⟩:=h;obtain⟨xs,m,_,q,j,J,r⟩:=DataW.trod_array I C;rw[p]at j;simp only[o,Nat.mul_one]at r;generalize f:v.cells.toList=l at C j r
 have key:∀i,i<n-> ∃z,l[i]?=some (.int k z)/\xs[i]?=some (.lit (.int k z),[])/\(Lit.int k z).wf=true:=by
  intro i b;have D:=r i b;obtain⟨y,E⟩:∃y,xs[i]?=some y:=⟨xs[i]'af,aQ af⟩;rw[E]at D;obtain⟨z,K,rfl,s⟩:=DataW.trod_int he D;refine⟨z,?_,E,s⟩;have:=aA (·[0]?) K;simpa[List.getElem?_take,List.getElem?_drop]using this
 let ws:List Int:=l.map λv=>match v with| .int _ z=>z|_=>0
 have u:ws.length=n:=by simp[ws,j]
 have g:∀i,i<n-> ∀z,l[i]?=some (.int k z)->ws[i]?=some z:=λi _ z c=>by simp[ws,c]
 have L:l=ws.map (Value.int k):=by
  apply jW;intro i
  by_cases b:i<n
  .obtain⟨z,c,_,_⟩:=key i b;rw[c,bi,g i b z c];rfl
  .rw[eI af,eI (by simp;omega)]
 have F:xs=ws.map λz=>((.lit (.int k z),[]):DataW H×List MemPlace):=by
  apply jW;intro i
  by_cases b:i<n
  .obtain⟨z,c,x,_⟩:=key i b;rw[x,bi,g i b z c];rfl
  .rw[eI af,eI (by simp;omega)]
 simp only[Prod.mk.injEq]at q;refine⟨ws,u,?_,?_,?_,?_⟩
 .have G:v.cells=ai k ws:=by
   apply Array.toList_inj.1;rw[f,L];simp[ai]
  cases v with
  |agg a=>simp only[Value.cells]at G;rw[G]
  |_=>
   exfalso;simp only[Value.cells]at f;subst f;simp at j;omega
 .rw[q.1,F];simp[List.map_map,Function.comp_def]
 .rw[q.2,F];simp[List.flatMap_map]
 .intro z c;obtain⟨i,b,rfl⟩:=List.getElem_of_mem c;obtain⟨M,A,_,s⟩:=key i af;have:=g i af M A;rw[aQ b]at this;cases this;exact s
theorem SL{t e}{n}{k}{ws}(l:P.underlying t=some (.array n e))(he:P.underlying e=some (.int k))(a:P.cellsOf e=1)(b:P.cellsOf t=n)(hl:ws.length=n)
 (m:∀z∈ws,(Lit.int k z).wf=true):DataW.Trod enc P w base sp held t (.agg (ai k ws)) (.agg (ws.map λz=> .lit (.int k z))) []:=by
 refine⟨2,?_⟩
 have o:(List.range n).mapM (λi=>DataW.trod enc P w base sp held 1 e ((((Value.agg (ai k ws)).cells.toList).drop (i*P.cellsOf e)).take (P.cellsOf e)))=some (ws.map λz=>((.lit (.int k z),[]):DataW H×List MemPlace)):=by
  refine mapM_some_of_get _ _ (by simp[hl]) λi x g=> ?_
  have c:i<n:=by
   have:=(aI.1 g).1;simpa using this
  obtain rfl:i=x:=by simpa[c]using g
  have h:ws[i]?=some (ws[i]'af):=aQ af
  have d:(((Value.agg (ai k ws)).cells.toList).drop (i*P.cellsOf e)).take (P.cellsOf e)= [.int k (ws[i]'af)]:=by
   rw[a,Nat.mul_one];apply jW;intro j;cases j with
   |zero=>simp[Value.cells,ai,List.getElem?_drop,h]
   |succ j=>simp[List.getElem?_take]
  rw[d,bi,h];have f:=m (ws[i]'af) (nV _);simp[DataW.trod,he,f]
 unfold DataW.trod;rw[l];simp only[];rw[aJ (by simp[Value.cells,ai,hl,b]),o];simp[List.map_map,Function.comp_def,List.flatMap_map]
theorem Ch{fuel}{t e q}{n m}{k}{cs}{a:List (List Int)}{p}
 (x:P.underlying t=some (.array n e)) (he:P.underlying e=some (.array m q)) (hq:P.underlying q=some (.int k)) (c:P.cellsOf q=1) (b:P.cellsOf e=m) (d:P.cellsOf t=n*m) (hz:a.length=n)
 (h:DataW.trod enc P w base sp held fuel t cs=some (.agg (a.map λr=> .agg (r.map λz=> .lit (.int k z))),p)):
 cs.length=n*m/\ ∀i,i<n->(cs.drop (i*m)).take m=(a.getD i []).map (Value.int k):=by
 obtain⟨xs,C,_,l,o,A,s⟩:=DataW.trod_array x h;rw[d]at o;rw[b]at s;simp only[Prod.mk.injEq,DataW.agg.injEq]at l;refine⟨o,λi f=> ?_⟩;obtain⟨y,u⟩:∃y,xs[i]?=some y:=⟨xs[i]'af,aQ af⟩;have g:=s i f;rw[u]at g;have v:=aA (·[i]?) l.1;have j:a[i]?=some (a.getD i []):=by simp[List.getD,show i<a.length by omega]
 simp only[List.getElem?_map,u,j,Option.map_some,Option.some.injEq]at v;have B:y=(Lib.tabData k (a.getD i []),y.2):=by rw[Lib.tabData,v]
 rw[B]at g;exact Lib.cells_of_tab he hq c b g
end
theorem CD{H}{enc}{P}{f}{s:ChangeSpec}{apart fresh handsOn again}{W k}{args}{v}{ds l}{a pa pv}
 (n:DataW.Whole enc P f.params.toList s.vars apart W args.toList ds l a)
 (h:∀(b:Nat) (sp:Nat->Bool) (x:Bool),DataW.TrodAll enc P k b sp x f.resultTypes.toList (v.resultList f.resultTypes.size) (s.fn H (ds++l)).results [])
 (c:∀sp:Nat->Bool,(∀p∈a,sp p.block=true)->DataW.TrodAll enc P k 0 sp true f.params.toList args.toList (s.fn H (ds++l)).args pa)
 (d:∀sp:Nat->Bool,(∀p∈a,sp p.block=true)->DataW.TrodVars enc P k sp s.vars (s.fn H (ds++l)).vars pv)
 (e:a=pa++pv) (u:Below W.heap.size W k)
 (o:∀(j:Nat) (t:fg) (r:cH),f.resultTypes[j]?=some t->(v.resultList f.resultTypes.size)[j]?=some r->Value.okWide P k .any 0 t r):
 s.post enc P f apart fresh handsOn again W args v k:=by
 have i:∀p∈a,(λb=>decide (b<W.heap.size)) p.block=true:=λp g=>by simpa using n.lt p g
 refine⟨ds,l,a,[],pa,pv,n,h _ _ _,c _ i,d _ i,World.keptBut_mono (λp g=>⟨g,?_⟩) (u.frame (· ∈a)),λ_=> ?_⟩
 .rw[e,bT]at g;exact Or.inr g
 .have q:=n.lt;obtain⟨_,_,_,_,_,y,z⟩:=n;refine⟨o,_,_,([]++pa)++pv,⟨[]++pa,pv,trodAll_append (c _ (λ_ _=>rfl)) (h _ _ _),d _ (λ_ _=>rfl),rfl,?_,?_⟩,?_⟩
  .intro b m g;have w:=(by rw[e];simpa using g:_∈a);rw[u.frozen (p:=⟨b,m,none⟩) (q _ w)];exact y b m w
  .intro A;have:=z A;rw[e]at this;simpa using this
  .intro p g _;rw[e];simpa using g
def dO(cs:Array Value):Obj->Obj
 | .cells _ t frozen=> .cells cs t frozen
 |o=>o
theorem abh{ws:aR}(h:∀z∈ws,(Lit.int .u8 z).wf=true):∀b∈ws,0<=b/\b<=255:=λb a=>by
 have:=h b a;simp[Lit.wf,IntKind.min,IntKind.max,IntKind.signed,IntKind.bits]at this;omega
theorem iO(k:IntKind)(ws:aR):(ai k ws).all (·.oneCell')=true:=by
 rw[mR];intro v a;simp only[ai,List.mem_toArray,List.mem_map]at a;obtain⟨z,_,rfl⟩:=a
 rfl
def lY:Value->Nat
 | .pointer (some a)=>a.block
 |_=>0
def lZ:Value->Nat
 | .pointer (some a)=>a.off
 |_=>0
def jx(w:World)(x:Value)(m:Nat):Value:= .agg ((List.range m).map λj=>(w.cell? ⟨lY x,lZ x+j,none⟩).getD undef).toArray
def jQ(w:World)(x:Value)(m:Nat):Prop:= ∃g o,x= .pointer (some ⟨g,o,none⟩)/\w.there g o m
theorem cr(a:Addr):lY (.pointer (some a))=a.block:=rfl
theorem cD(a:Addr):lZ (.pointer (some a))=a.off:=rfl
def At(w:World)(g o:Nat)(cs:Array Value):Prop:=w.rangeAt g o cs.toList/\w.there g o cs.size
section
variable {w w':World}{g o:Nat}{cs:Array Value}
theorem At.R{m}(h:At w g o cs)(hm:cs.size=m):jQ w (.pointer (some ⟨g,o,none⟩)) m:=⟨g,o,rfl,hm▸h.2⟩
theorem At.row{m}(h:At w g o cs)(hm:cs.size=m):jx w (.pointer (some ⟨g,o,none⟩)) m= .agg cs:=by
 unfold jx;subst hm;congr 1;apply Array.ext
 .simp
 .intro i a b;simp only[List.size_toArray,List.length_map,List.length_range]at a;have:=h.1 i cs[i] (by simp[b]);simp[lY,lZ,this]
theorem At.cell(h:At w g o cs)(i:Nat)(a:i<cs.size):w.cell? ⟨g,o+i,none⟩=some cs[i]:=h.1 i cs[i] (by simp[a])
theorem At.inside(h:At w g o cs)(a:0<cs.size):g<w.heap.size:=aH (h.cell 0 a)
theorem At.below(h:At w g o cs){B}(a:Below B w w')(b:g<B):At w' g o cs:=
 ⟨λj v c=>(a.cell (p:=⟨g,o+j,none⟩) b).trans (h.1 j v c),λj d=>by
  rw[a.cell (p:=⟨g,o+j,none⟩) b,a.frozen (p:=⟨g,o+j,none⟩) b];exact h.2 j d⟩
theorem At.only(h:At w g o cs){r}(b:w.grownBy w' r)(hlt:g<w.heap.size)(c:some g≠r):At w' g o cs:=by
 have a:=b.block g hlt c;refine⟨λj v d=>(df a).trans (h.1 j v d),λj e=> ?_⟩;have:=h.2 j e;rw[df a,show w'.frozen? ⟨g,o+j,none⟩=w.frozen? ⟨g,o+j,none⟩from by unfold World.frozen?;rw[a]];exact this
theorem At.j{t}(h:Whole w g t cs):At w g 0 cs:=
 ⟨λj v a=>by rw[aW,h.at_];simpa using a,λj b=>by rw[aW];exact⟨by rw[h.at_,gv b];rfl,h.free _⟩⟩
theorem At.part{t}{all}(h:Whole w g t all)(o:Nat)(cs:gJ)(b:∀j,j<cs.size->all[o+j]?=cs[j]?):At w g o cs:=
 ⟨λj v c=>by
  have a:j<cs.size:=by
   have:=(aI.1 c).1;simpa using this
  rw[h.at_,b j a];simpa using c,
  λj a=>⟨by rw[h.at_,b j a,gv a];rfl,h.free _⟩⟩
theorem At.alloc(h:At w g o cs)(a:Obj):At (w.alloc a) g o cs:=⟨World.rangeAt_alloc h.1 a,World.there_alloc h.2 a⟩
end
theorem Whole.mid{w}{g}{t}:∀(vs pre old post:gF),old.length=vs.length->Whole w g t (pre++old++post).toArray->Whole (w.setCells g pre.length vs) g t (pre++vs++post).toArray:=by
 intro vs
 induction vs generalizing w with
 |nil=>
  intro pre old post a h;obtain rfl:old= []:=by simpa using a
  exact h
 |cons v r c=>
  intro pre old post a h;cases old with
  |nil=>simp at a
  |cons x old=>
   have d:Whole (w.setCell ⟨g,pre.length,none⟩ v) g t ((pre++ [v])++old++post).toArray:=by
    have f:=h.stored pre.length v
    have e:(pre++x::old++post).toArray.setIfInBounds pre.length v=((pre++ [v])++old++post).toArray:=by
     simp
    rwa[e]at f
   have b:=c (pre++ [v]) old post (ek a) d;rw[am,List.length_singleton]at b;rw[World.setCells];simpa using b
theorem aG(g:Nat):∀(vs:List Value) (o:Nat) (w:World),w.grownBy (w.setCells g o vs) (some g)
 | [],o,w=>ez w _
 |v::vs,o,w=>aZ (aY ⟨g,o,none⟩ rfl v) (aG g vs (o+1) _)
theorem Whole.fill{w}{g}{t}{cs new}(h:Whole w g t cs)(he:new.size=cs.size):Whole (w.setCells g 0 new.toList) g t new:=by
 have a:Whole w g t (([]:List Value)++cs.toList++ []).toArray:=by simpa using h
 have b:=a.mid new.toList [] cs.toList [] (by simp[he]);simpa using b
theorem YZ{P}(ty:fg)(d:TypeDesc)(m:Nat)(c:P.underlying ty=some d)(f:d.isRow=true)(h:(P.info? ty).map (·.size)=some m)(w:ay)(x:cH)(i:jQ w x m):
 (Instr.loadAt ty x).run P w= .ok (jx w x m) w:=by
 obtain⟨g,o,rfl,k⟩:=i;refine run_loadAt_mid w g o ty _ d (λj v l=> ?_) c f (by rw[h];simp);obtain⟨b,e⟩:=aI.1 l;simp only[List.length_map,List.length_range]at b;obtain⟨n,_⟩:=k j b;obtain⟨u,a⟩:=Option.isSome_iff_exists.1 n;rw[a,<-e];simp only[List.getElem_map,List.getElem_range];show some u=some ((w.cell? ⟨g,o+j,none⟩).getD undef);rw[a]
 rfl
def mZ(m:Nat)(y:Value):Prop:= ∃cs:Array Value,y= .agg cs/\cs.size=m/\cs.all (·.oneCell')=true
theorem ZL{P}(ty:fg)(m:Nat)(b:(P.info? ty).map (·.size)=some m)(w:ay)(x y:cH)(c:jQ w x m)(d:mZ m y):(Instr.storeAt ty x y).run P w= .ok () (w.setCells (lY x) (lZ x) y.cells.toList):=by
 obtain⟨g,o,rfl,e⟩:=c;obtain⟨cs,rfl,a,f⟩:=d;exact run_storeAt_mid w g o ty cs (by rw[a];exact e) (by rw[b,a]) f
section
variable {P:Program}{d:Tmp}{x y:Operand}{t ty:TypeId}{pos:String}{after:Array Edge}{gd:Option (Nat×Bool)}{a:Go.Act}{w:World}{K:Go.Act->World->Prop}{Q:Exit->Go.Act->World->Prop}{m:Nat}{dd:TypeDesc}
theorem iS(b:P.underlying t=some dd)(c:dd.isRow=true)(e:(P.info? t).map (·.size)=some m)(f:jQ w (a.eval x) m):Oper.wp P ⟨some d,.load t x,ty,pos,after,gd⟩ a w K Q=K (a.put (some d) (jx w (a.eval x) m)) w:=by
 have h:=YZ (P:=P) t _ m b c e w _ f;unfold Oper.wp;simp only[execOp,Sem.run_bind,h,Result.andThen_ok,Sem.run_pure]
 rfl
theorem lj(b:(P.info? t).map (·.size)=some m)(c:jQ w (a.eval x) m)(d:mZ m (a.eval y)):Oper.wp P ⟨none,.store t x y,ty,pos,after,gd⟩ a w K Q=K (a.put none undef) (w.setCells (lY (a.eval x)) (lZ (a.eval x)) (a.eval y).cells.toList):=by
 have h:=ZL (P:=P) t m b w _ _ c d;unfold Oper.wp;simp only[execOp,Sem.run_bind,h,Result.andThen_ok,Sem.run_pure]
 rfl
end
theorem ej{P}{F}{p}{T}{dd}(hF:F.results= #[.cell p T])(d:P.underlying T=some dd)(e:dd.isRow=true){m}(f:(P.info? T).map (·.size)=some m){Q}{a}{w}(g:Nat)(cs old:gJ)
 (h:a.eval (.tmp p)= .pointer (some ⟨g,0,none⟩)) (b:a.defers= []) (i:Whole w g T old) (j:old.size=m) (c:cs.size=m) (hq:Q (.returned (.agg cs)) (w.setCells g 0 cs.toList)):bodyPost P F Q Exit.ret a (w.setCells g 0 cs.toList):=
 cI (im hF a.tmps _ g T cs (0,0) dd h (i.fill (by rw[c,j])) d (by cases dd<;>first|rfl|exact e) (by rw[c];exact f)) b hq
theorem bY(k:IntKind)(ws:aR)(m:Nat)(h:ws.length=m):mZ m (.agg (ai k ws)):=⟨_,rfl,by rw[ag,h],iO _ _⟩
section
variable {P:Program}{ops:Array Oper}{C:World->Prop}{o:Oper}{a:Go.Act}{K:Go.Act->Prop}{b:Go.Act}
theorem jo(e:Region.wanted o (yielded ops a.tmps)=true)(ty:fg)(x:Operand)(i:o.op= .load ty x)
 (g c:Nat) (j:a.eval x= .pointer (some ⟨g,c,none⟩)) (cs:gJ) (d:TypeDesc) (hS:∀w,C w->At w g c cs)
 (k:P.underlying ty=some d) (l:d.isRow=true) (m:(P.info? ty).map (·.size)=some cs.size) (n:K (a.put o.dst (.agg cs))):
 if Region.wanted o (yielded ops a.tmps)then o.quiet P a C K else K b:=by
 refine qj e ⟨.agg cs,λw f=>aD ?_,n⟩;have h:=yieldsIf_load_mid (P:=P) (ops:=ops) (S:=C) (op:=o) (a:=a) e ty x i g c j cs.toList d (λw f=>(hS w f).1) k l (ek m);rcases h with⟨_,h⟩|⟨h,_⟩
 .simpa using h w f
 .rw[e]at h;cases h
end
def Lay(w:World)(g:Nat)(T:TypeId)(ps:List (List Value)):Prop:=Whole w g T ps.flatten.toArray
def kj(a:List Nat)(i:Nat):Nat:=(a.take i).sum
theorem jz(ps:qu):ps.flatten.length=(ps.map List.length).sum:=bj
theorem mg(ps:qu)(i:Nat):(ps.take i).flatten.length=kj (ps.map List.length) i:=by
 unfold kj;rw[jz,List.map_take]
theorem ox(ps:qu)(i n:Nat):ps.flatten=(ps.take i).flatten++(((ps.drop i).take n).flatten++(ps.drop (i+n)).flatten):=by
 rw[<-r9,<-r9];congr 1;rw[<-List.drop_drop,cR,cR]
section
variable {w w':World}{g:Nat}{T:TypeId}{ps:List (List Value)}
theorem Lay.inside(h:Lay w g T ps):g<w.heap.size:=Whole.inside h
theorem Lay.free(h:Lay w g T ps)(i:Nat):w.frozen? ⟨g,i,none⟩=false:=Whole.free h i
theorem Lay.alloc(h:Lay w g T ps)(o:Obj):Lay (w.alloc o) g T ps:=Whole.alloc h o
theorem Lay.below{B}(h:Lay w g T ps)(a:Below B w w')(b:g<B):Lay w' g T ps:=Whole.below h a b
theorem Lay.only{r}(h:Lay w g T ps)(a:w.grownBy w' r)(b:some g≠r):Lay w' g T ps:=Whole.only h a b
theorem Lay.run(h:Lay w g T ps)(i n o:Nat)(cs:gF)(a:kj (ps.map List.length) i=o)(b:((ps.drop i).take n).flatten=cs):At w g o cs.toArray:=by
 refine At.part (t:=T) (all:=ps.flatten.toArray) h o cs.toArray (λj c=> ?_);rw[eg,eg,ox ps i n,b,qY (by rw[mg,a];omega),mg,a,jb (by rw[show o+j -o=j by omega];simpa using c)];congr 1;omega
theorem Lay.part(h:Lay w g T ps)(i o:Nat)(p:gF)(a:kj (ps.map List.length) i=o)(b:ps[i]?=some p):At w g o p.toArray:=by
 refine h.run i 1 o p a ?_;obtain⟨c,d⟩:=aI.1 b;rw[gw c,d];simp
theorem Lay.cell(h:Lay w g T ps)(i j o:Nat){p}{v}(a:kj (ps.map List.length) i+j=o)(b:ps[i]?=some p)(hv:p[j]?=some v):w.cell? ⟨g,o,none⟩=some v:=by
 have c:=(h.part i _ p rfl b).1 j v (ek hv);rwa[a]at c
theorem Lay.cell0(h:Lay w g T ps)(i o:Nat){v}(a:kj (ps.map List.length) i=o)(b:ps[i]?=some [v]):w.cell? ⟨g,o,none⟩=some v:=h.cell i 0 o (by rw[vr];exact a) b rfl
theorem Lay.set(h:Lay w g T ps)(i o:Nat)(p q:gF)(c:kj (ps.map List.length) i=o)(d:ps[i]?=some p)(hl:p.length=q.length):Lay (w.setCells g o q) g T (ps.set i q):=by
 obtain⟨a,f⟩:=aI.1 d
 have e:ps.flatten=(ps.take i).flatten++p++(ps.drop (i+1)).flatten:=by
  rw[ox ps i 1,gw a,f];simp
 have j:Whole w g T ((ps.take i).flatten++p++(ps.drop (i+1)).flatten).toArray:=by rw[<-e];exact h
 have b:=j.mid q _ p _ hl;rw[mg,c]at b;unfold Lay;rw[List.set_eq_take_append_cons_drop,aJ a];rw[r9,vq,<-bf];exact b
theorem Lay.SI(h:Lay w g T ps)(i o:Nat)(v u:cH)(a:kj (ps.map List.length) i=o)(b:ps[i]?=some [v]):Lay (w.setCell ⟨g,o,none⟩ u) g T (ps.set i [u]):=h.set i o [v] [u] a b rfl
theorem Lay.Lo(h:Lay w g T ps)(i n o:Nat)(qs:qu)(b:kj (ps.map List.length) i=o)(d:qs.length=n)(hl:((ps.drop i).take n).map List.length=qs.map List.length):Lay (w.setCells g o qs.flatten) g T (ps.take i++qs++ps.drop (i+n)):=by
 have c:Whole w g T ((ps.take i).flatten++((ps.drop i).take n).flatten++(ps.drop (i+n)).flatten).toArray:=by rw[bf,<-ox];exact h
 have a:=c.mid qs.flatten _ _ _ (by rw[jz,jz,hl]);rw[mg,b]at a;unfold Lay;rw[r9,r9];exact a
end
structure ci(L:List Nat)(w w':World):Prop where
 os:w'.os=w.os
 tape:w'.tape=w.tape
 output:w'.output=w.output
 size:w.heap.size<=w'.heap.size
 block:∀i,i<w.heap.size->i∉L->w'.heap[i]?=w.heap[i]?
theorem ci.refl(L:iT)(w:ay):ci L w w:=⟨rfl,rfl,rfl,ak _,λ_ _ _=>rfl⟩
theorem ci.trans{L M}{a b c}(h:ci L a b)(k:ci M b c)(e:∀m∈M,m∈L\/a.heap.size<=m):ci L a c:=
 ⟨k.os.trans h.os,k.tape.trans h.tape,k.output.trans h.output,ap h.size k.size,λi f d=>by
  have j:=h.size;rw[k.block i af (λg=>(e i g).elim d (λl=>by omega)),h.block i f d]⟩
theorem ci.mono{L M}{a b}(h:ci L a b)(c:∀m∈L,m∈M\/a.heap.size<=m):ci M a b:=(ci.refl M a).trans h c
theorem ci.bZ{w w'}{g}(h:w.grownBy w' (some g)):ci [g] w w':=⟨h.os,h.tape,h.output,h.size,λi a b=>h.block i a (λe=>b (by injection e with e;simp[e]))⟩
theorem ci.cL{w w'}(h:Below w.heap.size w w')(L:iT):ci L w w':=⟨h.os,h.tape,h.output,h.size,λi a _=>h.block i a⟩
theorem ci.below{L}{w w'}(h:ci L w w'){B}(c:B<=w.heap.size)(a:∀m∈L,B<=m):Below B w w':=⟨h.os,h.tape,h.output,h.size,λi d=>h.block i af (λb=>by have:=a i b;omega)⟩
theorem ci.whole{L}{w w'}(h:ci L w w'){g}{t}{cs}(a:Whole w g t cs)(b:g∉L):Whole w' g t cs:=(h.block g a.inside b).trans a
theorem ci.cell{L}{w w'}(h:ci L w w'){g o}{v}(a:w.cell? ⟨g,o,none⟩=some v)(b:g∉L):w'.cell? ⟨g,o,none⟩=some v:=(df (h.block g (aH a) b)).trans a
theorem ci.lay{L}{w w'}(h:ci L w w'){g}{t}{ps}(a:Lay w g t ps)(b:g∉L):Lay w' g t ps:=h.whole a b
theorem fW{w}{g g'}{t b}{cs cs'}(h:Whole w g t cs)(c:Whole w g' b cs')(d:t≠b):g≠g':=λe=>by
 subst e;have f:w.heap[g]?=some (.cells cs t (0,0)):=h;have a:w.heap[g]?=some (.cells cs' b (0,0)):=c;rw[f]at a;injection a with a;injection a with _ i;exact d i
abbrev sl(x:Option Addr×Nat×Nat):Value:= .slice x.1 x.2.1 x.2.2
structure En where
 i:Nat
 m:Bool
 B:Nat->Prop
 p:List (List Value)->World->Prop
 ps:List (List Value)
 loc:∀qs W W',p qs W->(∀k,B k->W'.heap[k]?=W.heap[k]?)->W.heap.size<=W'.heap.size->p qs W'
 z:Bool
structure Hp(w:World)(M:List Nat)(s:List En)(W:World):Prop where
 base:ci M w W
 en:∀e∈s,e.p e.ps W
 ins:∀e∈s,∀k,e.B k->k<W.heap.size
 own:∀e∈s,e.m=true-> ∀k,e.B k->k∈M\/w.heap.size<=k
 nd:s.Pairwise λa b=> ∀k,a.B k-> ¬b.B k
def bl(i g:Nat)(m:Bool)(K:List (List Value)->Option Obj->Prop)(ps:List (List Value)):En:=
 ⟨i,m,λk=>k=g,λa W=>K a W.heap[g]?,ps,λa W W' h b _=>by rw[b g rfl];exact h,false⟩
def fa(B:Nat->Prop)(p:World->Prop)(loc:∀W W',p W->(∀k,B k->W'.heap[k]?=W.heap[k]?)->W.heap.size<=W'.heap.size->p W'):En:=⟨0,false,B,λ_=>p,[],λ_=>loc,false⟩
def kL(t:TypeId)(L:List Nat)(ps:List (List Value))(o:Option Obj):Prop:=ps.map List.length=L/\o=some (.cells ps.flatten.toArray t (0,0))
def er(X:List Nat)(i:Nat)(ps:List (List Value)):List (List Value):=ps.zipIdx.map λx=>if X.contains (i*1000+x.2)then[]else x.1
def uO(X:List Nat)(s t:List En):Prop:= ∀e∈s,e.z=true\/ ∃a,{e with ps:=a}∈t/\er X e.i a=er X e.i e.ps
theorem UD{X Y}(c:∀x∈X,x∈Y){i}{ps qs}(h:er X i qs=er X i ps):er Y i qs=er Y i ps:=by
 unfold er at*;apply jW;intro j;have a:((qs.zipIdx.map λx=>if X.contains (i*1000+x.2)then[]else x.1))[j]?=(ps.zipIdx.map λx=>if X.contains (i*1000+x.2)then[]else x.1)[j]?:=by rw[h]
 simp only[List.getElem?_map,List.getElem?_zipIdx,Nat.zero_add]at a⊢;cases d:qs[j]?<;>cases e:ps[j]?<;>simp[d,e]at a⊢
 by_cases b:i*1000+j∈Y
 .simp[b]
 .have f:¬i*1000+j∈X:=λh=>b (c _ h);simp[f]at a;simp[b,a]
theorem uO.mono{X Y}(a:∀x∈X,x∈Y){s t}(h:uO X s t):uO Y s t:=λe b=>(h e b).imp id λ⟨c,d,f⟩=>⟨c,d,UD a f⟩
def leq(dr:Bool)(X:List Nat)(s t:List En):Prop:=cond dr (uO X s t) (t=s)
def Cw(dr:Bool)(X:List Nat)(s t:List En):Prop:=dr=true->uO X s t
theorem uO.refl(X:iT)(s:List En):uO X s s:=λe h=> .inr ⟨e.ps,h,rfl⟩
theorem uO.trans{X}{a b c}(h:uO X a b)(k:uO X b c):uO X a c:=λe d=>by
 rcases h e d with h|⟨m,f,g⟩
 .exact .inl h
 rcases k _ f with h|⟨i,j,l⟩
 .exact .inl h
 .exact .inr ⟨i,j,l.trans g⟩
theorem uO.push{X}{s}(t:List En):uO X s (s++t):=λe h=> .inr ⟨e.ps,hJ _ h,rfl⟩
theorem Yx{X}{p i}{ps qs}(h:er X p qs=er X p ps)(c:X.contains (p*1000+i)=false):qs[i]?=ps[i]?:=by
 have a:(er X p qs)[i]?=(er X p ps)[i]?:=by rw[h]
 unfold er at a;simp only[List.getElem?_map,List.getElem?_zipIdx]at a;have b:¬p*1000+i∈X:=by simpa using c
 cases d:qs[i]?<;>cases e:ps[i]?<;>simp[d,e]at a⊢;simpa[b]using a
structure Fr(s:List En)(W:World)(t:List En)(W':World):Prop where
 et:∀k,k<W.heap.size->(∀e∈s,¬e.B k)->W'.heap[k]?=W.heap[k]?
 size:W.heap.size<=W'.heap.size
 new:∀e∈t,∀k,e.B k->(∃x∈s,x.B k)\/W.heap.size<=k
section
variable {w W W':World}{M:List Nat}{s t:List En}{X:List Nat}
theorem Hp.perm(h:Hp w M s W)(b:s.Perm t):Hp w M t W:=
 ⟨h.base,λe a=>h.en e (b.mem_iff.2 a),λe a=>h.ins e (b.mem_iff.2 a),λe a=>h.own e (b.mem_iff.2 a),b.pairwise h.nd (λh k c d=>h k d c)⟩
theorem Hp.drew(h:Hp w M s W):Hp w M s W.drew:=⟨h.base.trans (ci.cL (bA (aw _ W) 1) []) (λ_ h=>by cases h),λe a=>e.loc _ _ _ (h.en e a) (λ_ _=>rfl) (ak _),h.ins,h.own,h.nd⟩
theorem Hp.iC(h:Hp w M s W)(a:Below W.heap.size W W'):Hp w M s W':=
 ⟨h.base.trans (ci.cL a []) (λ_ h=>by cases h),λe b=>e.loc _ _ _ (h.en e b) (λk c=>a.block k (h.ins e b k c)) a.size,λe b k c=>aL (h.ins e b k c) a.size,h.own,h.nd⟩
theorem Fr.iC(h:Hp w M s W)(b:Below W.heap.size W W'):Fr s W s W':=⟨λk a _=>b.block k a,b.size,λe c k a=> .inl ⟨e,c,a⟩⟩
theorem Hp.lay(h:Hp w M s W){i g}{m}{ty}{L}{ps}(a:bl i g m (kL ty L) ps∈s):Lay W g ty ps:=(h.en _ a).2
theorem Hp.uniq(h:Hp w M s W){p q:Nat}{x y}(j:s[p]?=some x)(hq:s[q]?=some y)(a:p≠q):∀k,y.B k-> ¬x.B k:=by
 have d:=mq.1 h.nd;obtain⟨e,f⟩:=aI.1 j;obtain⟨g,i⟩:=aI.1 hq;rcases Nat.lt_or_gt_of_ne a with b|c
 .have:=d p q e g b;rw[f,i]at this;exact λk l m=>this k m l
 .have:=d q p g e c;rw[f,i]at this;exact this
theorem xh{p}{e}{qs}(a:s[p]?=some e){x}(b:x∈s.set p {e with ps:=qs}):∃y∈s,x.B=y.B/\x.m=y.m:=by grind
theorem Hp.oE(h:Hp w M s W){p g}{e}(c:s[p]?=some e)(he:e.B g)(hm:e.m=true)(qs:qu)(n:ci [g] W W')(F:e.p qs W'):Hp w M (s.set p {e with ps:=qs}) W':=by
 obtain⟨G,o⟩:=aI.1 c;have d:e∈s:=ah c;refine⟨h.base.trans n (λm r=> ?_),λx f=> ?_,λx f=> ?_,λx f t=> ?_,?_⟩
 .obtain rfl:=ar.1 r;exact h.own e d hm _ he
 .obtain⟨q,a⟩:=List.mem_iff_getElem?.1 f;rw[List.getElem?_set]at a
  split at a
  .injection a with a;subst a;exact F
  .rename_i u;have l:x∈s:=ah a;exact x.loc _ _ _ (h.en x l) (λk b=>n.block k (h.ins x l k b) (λhm=>by obtain rfl:=ar.1 hm;exact h.uniq c a u _ b he)) n.size
 .obtain⟨y,v,z,E⟩:=xh c f;rw[z];exact λk b=>aL (h.ins y v k b) n.size
 .obtain⟨y,v,z,E⟩:=xh c f;rw[z];exact h.own y v (E▸t)
 .have A:=mq.1 h.nd;refine mq.2 λi j H I C=> ?_
  have key:∀k (b:k<(s.set p {e with ps:=qs}).length),((s.set p {e with ps:=qs})[k]).B=(s[k]'(ek b)).B:=λk b=>by
   rw[List.getElem_set]
   split
   .rename_i D;subst D;rw[o]
   .rfl
  rw[key i H,key j I];exact A i j _ _ C
theorem Fr.oE{p g}{e}(b:s[p]?=some e)(he:e.B g)(qs:qu)(c:ci [g] W W'):Fr s W (s.set p {e with ps:=qs}) W':=
 ⟨λk a d=>c.block k a (λf=>by obtain rfl:=ar.1 f;exact d e (ah b) he),c.size,λx h k a=>by obtain⟨y,i,j,_⟩:=xh b h;exact .inl ⟨y,i,j▸a⟩⟩
theorem Hp.more(h:Hp w M s W){e}(hm:e.m=true-> ∀k,e.B k->k∈M\/w.heap.size<=k)(b:∀k,e.B k->k<W.heap.size)(c:∀x∈s,∀k,x.B k-> ¬e.B k)(d:e.p e.ps W):Hp w M (s++ [e]) W:=by
 refine⟨h.base,λx a=> ?_,λx a=> ?_,λx a=> ?_,List.pairwise_append.2 ⟨h.nd,List.pairwise_singleton _ _,λx a y f=>by obtain rfl:=ar.1 f;exact c x a⟩⟩
 all_goals rcases bT.1 a with a|a
 .exact h.en x a
 .obtain rfl:=ar.1 a;exact d
 .exact h.ins x a
 .obtain rfl:=ar.1 a;exact b
 .exact h.own x a
 .obtain rfl:=ar.1 a;exact hm
theorem Hp.push(h:Hp w M s W)(c:Below W.heap.size W W'){e}(a:∀k,e.B k->W.heap.size<=k/\k<W'.heap.size)(d:e.p e.ps W'):Hp w M (s++ [e]) W':=
 (h.iC c).more (λ_ k b=> .inr (ap h.base.size (a k b).1)) (λk b=>(a k b).2) (λx f k g i=>by have:=h.ins x f k g;have:=(a k i).1;omega) d
theorem Fr.push(h:Hp w M s W)(c:Below W.heap.size W W'){e}(d:∀k,e.B k->W.heap.size<=k/\k<W'.heap.size):Fr s W (s++ [e]) W':=
 ⟨λk b _=>c.block k b,c.size,λx a k b=>(bT.1 a).elim (λa=> .inl ⟨x,a,b⟩) (λa=>by obtain rfl:=ar.1 a;exact .inr (d k b).1)⟩
theorem Hp.less(h:Hp w M (s++t) W):Hp w M s W:=
 ⟨h.base,λe a=>h.en e (hJ _ a),λe a=>h.ins e (hJ _ a),λe a=>h.own e (hJ _ a),(List.pairwise_append.1 h.nd).1⟩
theorem Hp.below(h:Hp w [] t W):Below w.heap.size w W:=h.base.below (ak _) (λ_ h=>by cases h)
theorem Hp.Xx{dr}(h:Hp w M t W)(hl:leq dr X s t){p i g:Nat}{m}{K}{ps}(b:s[p]?=some (bl i g m K ps)):
 ∃a,K a W.heap[g]?/\ ∀j,(dr&&X.contains (i*1000+j))=false->a[j]?=ps[j]?:=by
 cases dr
 .obtain rfl:t=s:=hl;exact⟨ps,h.en _ (ah b),λ_ _=>rfl⟩
 .obtain⟨a,c,d⟩:=((show uO X s t from hl) _ (ah b)).resolve_left (λh=>by cases h);exact⟨a,h.en _ c,λj e=>Yx d e⟩
theorem Hp.yj{dr}(h:Hp w M t W)(hl:leq dr X s t){p i g:Nat}{m}{b}{L}{ps}(d:s[p]?=some (bl i g m (kL b L) ps)):
 ∃a,Lay W g b a/\a.map List.length=L/\ ∀j,(dr&&X.contains (i*1000+j))=false->a[j]?=ps[j]?:=by
 obtain⟨a,c,e⟩:=h.Xx hl d;exact⟨a,c.2,c.1,e⟩
end
def ri(dr:Bool)(ops:Array Oper)(l:Array Bool):List Nat:=
 if dr then Region.ready .any ops l else((List.range ops.size).find? λi=> !l.getD i true).toList
def xo(X:List Nat)(c:Nat):List Nat:=(X.filter λx=>Nat.beq (x/10000000) 0||Nat.beq (x/10000000) (c+1)).map (· %10000000)
def xs(X S:List Nat):List Nat:=(X.filter λx=>Nat.beq (x/10000000) 0||S.any λc=>Nat.beq (x/10000000) (c+1)).map (· %10000000)
def may(ops:Array Oper)(i:Nat):Nat->Array Bool->Array Bool
 |0,l=>l
 |n+1,l=>match (Region.ready .any ops l).filter λj=> !Nat.beq j i with
  | []=>l
  |r=>may ops i n (r.foldl (λl c=>l.setIfInBounds c true) l)
def ahd(ops:Array Oper)(l:Array Bool)(i:Nat)(S:List Nat):Prop:= ∀j o,ops[j]?=some o->l.getD j true=false->j≠i->(∀e∈o.after,Region.binds .any e=true->l.getD e.on false=true\/e.on∈S)->j∈S
def ahB(ops:Array Oper)(l:Array Bool)(i:Nat)(S:List Nat):Bool:=(List.range ops.size).all λj=>l.getD j true||Nat.beq j i||S.contains j||match ops[j]? with
 |none=>true
 |some o=>o.after.any λe=>Region.binds .any e&& !l.getD e.on false&& !S.contains e.on
def aaO(ops:Array Oper)(l:Array Bool)(i:Nat):List Nat:=let m:=may ops i ops.size l;(List.range ops.size).filter λj=> !l.getD j true&&m.getD j true
def xn(X:List Nat)(ops:Array Oper)(l:Array Bool)(i:Nat):List Nat:=if X.all λx=>Nat.beq (x/10000000) 0 then X else if ahB ops l i (aaO ops l i)then xs X (aaO ops l i)else X.map (· %10000000)
theorem C9(ops:ZV)(l:rX)(i:Nat):ahd ops l i (List.range ops.size):=λj o a _ _ _=>List.mem_range.2 (aT.1 a).1
theorem X3{ops}{l}{i}{S}(h:ahB ops l i S=true):ahd ops l i S:=λj o d f g k=>by
 have a:=fX.1 h j (List.mem_range.2 (aT.1 d).1);simp only[f,Bool.false_or,Bool.or_eq_true,d]at a;rcases a with(a|a)|a
 .exact absurd (mb a) g
 .simpa using a
 .exfalso;obtain⟨e,m,b⟩:=Array.any_eq_true'.1 a;simp only[Bool.and_eq_true,Bool.not_eq_true']at b;rcases k e m b.1.1 with c|c
  .rw[c]at b;cases b.1.2
  .have:=b.2;rw[<-Bool.not_eq_true]at this;exact this (ek c)
theorem Xg(X:iT)(ops:ZV)(l:rX)(i:Nat):∃S,ahd ops l i S/\ ∀x∈xs X S,x∈xn X ops l i:=by
 unfold xn
 split
 .rename_i h;refine⟨_,C9 ops l i,λx b=> ?_⟩;obtain⟨y,a,rfl⟩:=fZ.1 b;have a:=(ea.1 a).1;have:=mb (fX.1 h y a);rw[ig af];exact a
 .split
  .rename_i h;exact⟨_,X3 h,λ_ h=>h⟩
  .refine⟨_,C9 ops l i,λx b=> ?_⟩;obtain⟨y,a,rfl⟩:=fZ.1 b;exact fZ.2 ⟨y,(ea.1 a).1,rfl⟩
theorem abl{X S}{c}(h:c∈S):∀x∈xo X c,x∈xs X S:=λx b=>by
 obtain⟨y,d,rfl⟩:=fZ.1 b;obtain⟨e,a⟩:=ea.1 d;refine fZ.2 ⟨y,ea.2 ⟨e,?_⟩,rfl⟩;rw[Bool.or_eq_true]at a⊢;exact a.imp id λf=>List.any_eq_true.2 ⟨c,h,f⟩
def gu(P:Program)(o:Oper):Bool:=match o.op with
 | .alloc _| .box .. | .buildSlice .. | .makeSlice .. =>true
 | .convert a b _=>(match P.underlying a,P.underlying b with|some .string,some (.slice _)=>true|_,_=>false)
 |_=>false
def Ze(P:Program)(ops:Array Oper)(k:Nat):Bool:=match ops[k]? with|some o=>gu P o&&o.guard.isNone|none=>false
def kT(t:TypeId)(L:List Nat)(ps:List (List Value))(o:Option Obj):Prop:=ps.map List.length=L/\ ∃a b,o=some (.cells (ps.flatten++a).toArray t b)/\(b=(0,0)\/L.sum<=b.1)
structure wa(P:Program)(o:Oper)(a:Act)(W:World)(v:Value)(ob:Obj)(W':World):Prop where
 run:(execOp a.eval o).run P W= .ok (.value v) W'
 heap:W'.heap=W.heap.push ob
 Jw:Below W.heap.size W W'
def Cm(c:Nat)(o:Oper)(b:Nat)(v:Value)(d:Obj):En:=match d with
 | .cells a t _=>(match o.op,v with
  | .convert ..,.slice _ n _=>bl (100+c) b true (kT t [n]) [a.toList.take n]
  |_,_=>bl (100+c) b true (kL t [a.size]) [a.toList])
 |_=>bl (100+c) b true (λ_ _=>True) []
def enK(c:Nat)(o:Oper)(W:World)(v:Value)(a:Obj)(W':World):Prop:=(Cm c o W.heap.size v a).p (Cm c o W.heap.size v a).ps W'
structure TI(b:Bool)(s:List En)(W:World)(t:List En)(W':World):Prop where
 f:b=true->Fr s W t W'
instance{b:Bool}{s t:List En}{W W':World}:Coe (Fr s W t W') (TI b s W t W'):=⟨λh=>⟨λ_=>h⟩⟩
theorem Fr.b{b}{s t}{W W'}(h:Fr s W t W'):TI b s W t W':=⟨λ_=>h⟩
def J6(P:Program)(ops:Array Oper):Bool:=ops.toList.any (gu P)
theorem UX{P}{ops}{k:Nat}{o}(a:ops[k]?=some o)(b:gu P o=true):J6 P ops=true:=List.any_eq_true.2 ⟨o,Array.mem_toList_iff.2 (Array.mem_of_getElem? a),b⟩
def Tl(P:Program)(w:World)(M:List Nat)(dr:Bool)(X:List Nat)(c:Bool)(s:List En)(W:World)(K:Value->List En->Prop):Result Next->Prop
 | .ok (.value u) a=> ∃t,Cw dr X s t/\Hp w M t a/\TI c s W t a/\K u t
 | .ok .skip a=> ∃t,Cw dr X s t/\Hp w M t a/\TI c s W t a/\K undef t
 | .ok (.enter f args) a=>Calls P f args a (λe b=> ∃v t,e= .returned v/\Cw dr X s t/\Hp w M t b/\TI c s W t b/\K v t)
 |_=>False
def BY(P:Program)(ops:Array Oper)(w:World)(M:List Nat)(dr:Bool)(X:List Nat)(c:Nat)(K:Act->List En->Prop)(a:Act)(s:List En):Prop:=
 match ops[c]? with
 |none=>K a s
 |some o=>if Region.wanted o (yielded ops a.tmps)then
  if gu P o then∃S:Nat->Value->Obj->Prop,(∀W,∃v d W',wa P o a W v d W'/\enK c o W v d W'/\S W.heap.size v d)/\ ∀b v d,S b v d->(∀e∈s,¬e.B b)->K (a.put o.dst v) (s++ [Cm c o b v d])
  else∀W,Hp w M s W->Tl P w M dr (xo X c) (J6 P ops) s W (λv t=>K (a.put o.dst v) t) ((execOp a.eval o).run P W)
  else K (a.put o.dst undef) s
def Uu(dr:Bool)(ops:Array Oper)(l:Array Bool)(cs a:List Nat):Prop:=
 if dr then∀j o,ops[j]?=some o->l.getD j true=false->(∀e∈o.after,Region.binds .any e=true->l.getD e.on false=true\/e.on∈a)->j∈cs\/j∈a else∀j∈ri false ops l,j∈cs
structure Node(P:Program)(dr:Bool)(ops:Array Oper)(l:Array Bool)(cs Lt:List Nat):Prop where
 rd:∀c∈cs,c∈ri dr ops l
 lt:∀k∈Lt,k∈ri dr ops l/\Ze P ops k=true/\Region.free .any ops l k=true
 ne:Lt≠ []->cs≠ []/\dr=true/\Region.noSelect ops=true
 cl:Uu dr ops l cs Lt
def Af(P:Program)(ops:Array Oper)(w:World)(M:List Nat)(dr:Bool)(X:List Nat)(Q:Act->List En->Prop):Nat->Array Bool->Act->List En->Prop
 |0,l,a,s=>ri dr ops l= []/\Q a s
 |f+1,l,a,s=>(ri dr ops l= []->Q a s)/\ ∃b d,Node P dr ops l b d/\ ∀c∈b,BY P ops w M dr X c (Af P ops w M dr X Q f (l.setIfInBounds c true)) a s
section
variable {P:Program}{ops:Array Oper}{w:World}{M:List Nat}{dr:Bool}{X:List Nat}{Q:Act->List En->Prop}{f c k:Nat}{l:Array Bool}{a a':Act}{s t:List En}{K K':Act->List En->Prop}
theorem JH{fi}{args}{W}{R}(h:Calls P fi args W R):∃e W',R e W':=let⟨e,a,_,b,_⟩:=h [];⟨e,a,b⟩
theorem WR{W}{i}{J k}(h:∀v u W',Cw dr X s u->Hp w M u W'->TI i s W u W'->J v u-> ∃j,Cw dr X t j/\Hp w M j W'/\TI i t W j W'/\k v j){r}(a:Tl P w M dr X i s W J r):Tl P w M dr X i t W k r:=by
 cases r with
 |ok n l=>
  cases n<;>simp only[Tl]at a⊢
  case value u=>obtain⟨_,b,c,d,g⟩:=a;exact h _ _ _ b c d g
  case skip=>obtain⟨_,b,c,d,g⟩:=a;exact h _ _ _ b c d g
  case enter f args=>exact a.mono λe m ⟨v,_,b,o,c,d,g⟩=>⟨v,by obtain⟨u,p⟩:=h _ _ _ o c d g;exact⟨u,b,p⟩⟩
 |halt x l=>simp only[Tl]at a
theorem sB(H:∀o,ops[c]?=some o->execOp a'.eval o=execOp a.eval o/\Region.wanted o (yielded ops a'.tmps)=Region.wanted o (yielded ops a.tmps))(q:∀W,Hp w M t W->Hp w M s W)(r:∀b,(∀e∈t,¬e.B b)-> ∀e∈s,¬e.B b)
 (x:ops[c]?=none->K a s->K' a' t) (h1:∀o,ops[c]?=some o->K (a.put o.dst undef) s->K' (a'.put o.dst undef) t) (y:∀o v b d,ops[c]?=some o->(∀e∈t,¬e.B b)->K (a.put o.dst v) (s++ [Cm c o b v d])->K' (a'.put o.dst v) (t++ [Cm c o b v d]))
 (z:∀o W v u W',ops[c]?=some o->Hp w M t W->Cw dr (xo X c) s u->Hp w M u W'->TI (J6 P ops) s W u W'->K (a.put o.dst v) u-> ∃k,Cw dr (xo X c) t k/\Hp w M k W'/\TI (J6 P ops) t W k W'/\K' (a'.put o.dst v) k) (h:BY P ops w M dr X c K a s):BY P ops w M dr X c K' a' t:=by
 unfold BY at*;cases f:ops[c]? with
 |none=>rw[f]at h;exact x f h
 |some o=>
  rw[f]at h;obtain⟨p,A⟩:=H o f;dsimp only at h⊢;rw[A]
  split
  .rename_i l;rw[if_pos l]at h
   split
   .rename_i m;rw[if_pos m]at h;obtain⟨S,k1,C⟩:=h;exact⟨S,λW=>by obtain⟨v,d,W',g,n⟩:=k1 W;exact⟨v,d,W',⟨by rw[p];exact g.run,g.heap,g.Jw⟩,n⟩,λb v d D i=>y o v b d f i (C b v d D (r b i))⟩
   .rename_i m;rw[if_neg m]at h;intro W j;rw[p];exact WR (λv u W' g n E F=>z o W v u W' f j g n E F) (h W (q W j))
  .rename_i l;rw[if_neg l]at h;exact h1 o f h
theorem AE{c}{o}{b}{v}{ob}(k:Nat):(Cm c o b v ob).B k↔k=b:=by
 unfold Cm
 split
 .split<;>exact Iff.rfl
 .exact Iff.rfl
theorem JV{W W'}{o}{v}{ob}(h:Hp w M s W)(d:wa P o a W v ob W')(b:enK c o W v ob W'):Hp w M (s++ [Cm c o W.heap.size v ob]) W':=
 h.push d.Jw (λk b=>by rw[AE]at b;subst b;exact⟨ak _,by rw[d.heap];simp⟩) b
theorem J9{W}(h:Hp w M s W):∀e∈s,¬e.B W.heap.size:=λe a b=>pM _ (h.ins e a _ b)
theorem RL{W}(g:Hp w M s W)(h:BY P ops w M dr X c K a s):∃a' t W',K a' t/\Hp w M t W'/\(a'=a\/ ∃o v,ops[c]?=some o/\a'=a.put o.dst v):=by
 unfold BY at h;cases i:ops[c]? with
 |none=>rw[i]at h;exact⟨a,s,W,h,g,.inl rfl⟩
 |some o=>
  rw[i]at h;dsimp only at h
  split at h
  .split at h
   .obtain⟨S,k1,j⟩:=h;obtain⟨v,k,W',b,d,l⟩:=k1 W;exact⟨_,_,W',j W.heap.size v k l (J9 g),JV g b d,.inr ⟨o,_,rfl,rfl⟩⟩
   .have f:=h W g;generalize(execOp a.eval o).run P W=r at f;cases r with
    |ok n m=>
     cases n<;>simp only[Tl]at f
     case value u=>obtain⟨t,_,b,_,d⟩:=f;exact⟨_,t,_,d,b,.inr ⟨o,_,rfl,rfl⟩⟩
     case skip=>obtain⟨t,_,b,_,d⟩:=f;exact⟨_,t,_,d,b,.inr ⟨o,_,rfl,rfl⟩⟩
     case enter fi args=>obtain⟨e,W',v,t,_,_,b,_,d⟩:=JH f;exact⟨_,t,_,d,b,.inr ⟨o,_,rfl,rfl⟩⟩
    |halt x m=>simp only[Tl]at f
  .exact⟨_,s,W,h,g,.inr ⟨o,_,rfl,rfl⟩⟩
theorem xF(i:∀a s t,s.Perm t->Q a s->Q a t):∀(f:Nat) (l:Array Bool) (a:Act) (s t:List En),s.Perm t->Af P ops w M dr X Q f l a s->Af P ops w M dr X Q f l a t
 |0,_,_,_,_,d,h=>⟨h.1,i _ _ _ d h.2⟩
 |f+1,l,a,s,t,d,h=>⟨λp=>i _ _ _ d (h.1 p),by
  obtain⟨q,r,y,z⟩:=h.2;refine⟨q,r,y,λc A=>sB (λ_ _=>⟨rfl,rfl⟩) (λW B=>B.perm d.symm) (λb j e g=>j e (d.mem_iff.1 g)) (λ_=>xF i f _ _ _ _ d) (λo _=>xF i f _ _ _ _ d) (λo v b J _ _=>xF i f _ _ _ _ (d.append_right _)) (λo W v u W' _ _ C D m E=>⟨u,λF e g=>C F e (d.mem_iff.2 g),D,⟨λj=>⟨λk n G=>(m.f j).et k n λe g=>G e (d.mem_iff.1 g),(m.f j).size,λe g k n=>((m.f j).new e g k n).imp (λ⟨x,H,I⟩=>⟨x,d.mem_iff.1 H,I⟩) id⟩⟩,E⟩) (z c A)⟩⟩
theorem ff{j}(h:ri dr ops l= []):j∉ri dr ops l:=by grind
theorem rV:∀(f:Nat) (l:Array Bool) (a:Act) (s:List En),Af P ops w M dr X Q f l a s->Af P ops w M dr X Q (f+1) l a s
 |0,l,a,s,h=>⟨λ_=>h.2,[],[],⟨(λ_ h=>by cases h),(λ_ h=>by cases h),(λh=>absurd rfl h),by
  unfold Uu;cases dr
  .exact λj g=>absurd g (ff h.1)
  .exact λj o i k m=>absurd (show j∈ri true ops l from dj.2 ⟨k,o,i,λe d n=>(m e d n).resolve_right (λh=>by cases h)⟩) (ff h.1)⟩,(λ_ h=>by cases h)⟩
 |f+1,l,a,s,h=>⟨h.1,by
  obtain⟨p,q,r,t⟩:=h.2;refine⟨p,q,r,λc d=>sB (λ_ _=>⟨rfl,rfl⟩) (λ_ h=>h) (λ_ h=>h) (λ_=>rV f _ _ _) (λo _=>rV f _ _ _) (λo v b B _ _=>rV f _ _ _) (λo W v u W' _ _ x y z A=>⟨u,x,y,z,rV f _ _ _ A⟩) (t c d)⟩⟩
theorem Dw{i j}(h:l.getD j true=true):(l.setIfInBounds i true).getD j true=true:=by
 by_cases a:i=j
 .subst a;simp only[Array.getD_eq_getD_getElem?,Array.getElem?_setIfInBounds,if_true]
  split<;>rfl
 .rw[qZ true a];exact h
theorem pN{i j}(h:(l.setIfInBounds i true).getD j true=false):l.getD j true=false/\j≠i:=by
 refine⟨?_,λe=> ?_⟩
 .cases a:l.getD j true
  .rfl
  .rw[Dw a]at h;cases h
 .subst e;simp only[Array.getD_eq_getD_getElem?,Array.getElem?_setIfInBounds]at h
  split at h
  .split at h<;>cases h
  .rename_i b;exact(b trivial).elim
theorem AM{i j}(h:(l.setIfInBounds i true).getD j false=true):l.getD j false=true\/j=i:=by
 by_cases a:i=j
 .exact .inr a.symm
 .rw[qZ false a]at h;exact .inl h
theorem ux{i j}(h:Region.free .any ops l i=true):Region.free .any ops (l.setIfInBounds j true) i=true:=by
 unfold Region.free at*
 split at h
 .cases h
 .rename_i d b;simp only[List.all_eq_true,List.mem_range,Bool.or_eq_true]at h⊢;intro q c;rcases h q c with(a|a)|a
  .exact .inl (.inl a)
  .exact .inl (.inr (Dw a))
  .exact .inr a
theorem V0{i j}{o}(h:j∈ri true ops l)(k:ops[j]?=some o)(g:l.getD i true=false):∀e∈o.after,Region.binds .any e=true->e.on≠i:=λe m n d=>by
 obtain⟨_,p,a,b⟩:=dj.1 h;rw[k]at a;injection a with a;subst a;have c:=b e m n;rw[d]at c;rcases Nat.lt_or_ge i l.size with f|f
 .simp[f]at g c;rw[g]at c;cases c
 .simp[Array.getElem?_eq_none f]at c
theorem wg{i j}{oi oj}(e:ops[i]?=some oi)(hf:Region.free .any ops l i=true)(b:i∈ri true ops l)(d:j∈ri true ops l)(a:ops[j]?=some oj)(c:j≠i):oi.apart ops oj=true:=
 Region.free_spec e hf j oj a c (dj.1 d).1 (V0 d a (dj.1 b).1)
theorem Iv{j:Nat}{d c:Oper}(g:Region.noSelect ops=true)(f:ops[j]?=some c)(e:d.apart ops c=true)(a:Act)(v:cH):
 execOp (a.put d.dst v).eval c=execOp a.eval c/\Region.wanted c (yielded ops (a.put d.dst v).tmps)=Region.wanted c (yielded ops a.tmps):=
 ⟨execOp_put c (λh b=>mU g j c h b f) a d.dst v (jZ e).1,wanted_put c a d.dst v (jZ e).1⟩
theorem yw{i:Nat}{c d}(g:Region.noSelect ops=true)(f:ops[i]?=some c)(e:c.apart ops d=true)(a:Act)(v:cH):
 execOp (a.put d.dst v).eval c=execOp a.eval c/\Region.wanted c (yielded ops (a.put d.dst v).tmps)=Region.wanted c (yielded ops a.tmps):=
 ⟨execOp_put c (λh b=>mU g i c h b f) a d.dst v (jZ e).2.2,wanted_put c a d.dst v (jZ e).2.2⟩
def quY(P:Program)(w:World)(M:List Nat)(le:List En->List En->Prop)(s:List En)(o:Oper)(a:Act)(v:Value):Prop:= ∀t,le s t-> ∀W,Hp w M t W->o.quietAt P a (Below W.heap.size W) W v
theorem DQ{o}{v}(l:ops[c]?=some o)(m:gu P o=false)(p:Region.wanted o (yielded ops a.tmps)=true)(hq:∀W,Hp w M s W->o.quietAt P a (Below W.heap.size W) W v)(h:K (a.put o.dst v) s):BY P ops w M dr X c K a s:=by
 unfold BY;simp only[l,p,m,if_true,Bool.false_eq_true,if_false];intro W d;have g:=hq W d;unfold Oper.quietAt at g;generalize(execOp a.eval o).run P W=r at*;cases r with
 |ok n q=>
  cases n<;>simp only[Oper.quietUpon]at g<;>simp only[Tl]
  case value u=>obtain⟨i,j⟩:=g;subst i j;exact⟨s,λ_=>uO.refl _ s,d,(Fr.iC d (aw _ _)).b,h⟩
  case skip=>obtain⟨i,j⟩:=g;subst i j;exact⟨s,λ_=>uO.refl _ s,d,(Fr.iC d (aw _ _)).b,h⟩
  case enter f args=>obtain⟨i,t⟩:=g;subst i;exact t.mono λe y ⟨z,k⟩=>⟨v,s,z,λ_=>uO.refl _ s,d.iC k,(Fr.iC d k).b,h⟩
 |halt x q=>simp only[Oper.quietUpon]at g
def Px(P:Program)(ops:Array Oper)(w:World)(M X:List Nat)(s:List En)(o:Oper)(v:Value)(a:Act):Prop:=
 (Region.wanted o (yielded ops a.tmps)=true/\gu P o=false/\quY P w M (uO X) s o a v)\/(Region.wanted o (yielded ops a.tmps)=false/\v=undef)
theorem Px.BY{o}{v}{Y}(d:ops[c]?=some o)(e:Px P ops w M Y s o v a)(h:K (a.put o.dst v) s):BY P ops w M dr X c K a s:=by
 rcases e with⟨b,f,g⟩|⟨b,rfl⟩
 .exact DQ d f b (g s (uO.refl Y s)) h
 .unfold Go.Spk.BY;simp only[d,b,Bool.false_eq_true,if_false];exact h
theorem O8{i}{z}{v}(U:ops[i]?=some z)(hs:Region.noSelect ops=true):∀(f:Nat) (l:rX) (a:Act) (s:List En) (S:iT),ahd ops l i S->Region.free .any ops l i=true->i∈ri true ops l->Px P ops w M (xs X S) s z v a->
 Af P ops w M true X Q f (l.setIfInBounds i true) (a.put z.dst v) s->Af P ops w M true X Q (f+1) l a s:=by
 intro f
 induction f with
 |zero=>
  intro l a s S hS D I hy H;refine⟨λh=>absurd I (ff h),[i],[],⟨λc hc=>(by obtain rfl:=ar.1 hc;exact I),(λ_ h=>by cases h),(λh=>absurd rfl h),?_⟩,λc hc=>by obtain rfl:=ar.1 hc;exact hy.BY U H⟩;intro j o g V r
  by_cases p:j=i
  .subst p;exact .inl (.head _)
  .exact absurd (j0 (md:= .any) (show j∈Region.ready .any ops l from dj.2 ⟨V,o,g,λe n C=>(r e n C).resolve_right (λh=>by cases h)⟩) p) (ff (dr:=true) H.1)
 |succ f ih=>
  intro l a s S hS D I hy H;obtain⟨al,ab,N,hc⟩:=H.2
  have aB:∀j,j∈ri true ops (l.setIfInBounds i true)->(∀o,ops[j]?=some o-> ∀e∈o.after,Region.binds .any e=true->l.getD e.on false=true)->j∈ri true ops l:=λj J h=>by
   obtain⟨E,o,g,_⟩:=dj.1 J;exact dj.2 ⟨(pN E).1,o,g,h o g⟩
  refine⟨λh=>absurd I (ff h),i::al.filter (λc=>(ri true ops l).contains c),ab.filter (λc=>(ri true ops l).contains c),⟨λc n=> ?_,λk n=> ?_,λ_=>⟨(λh=>by cases h),rfl,hs⟩,?_⟩,λc n=> ?_⟩
  .rcases dz.1 n with rfl|n
   .exact I
   .simpa using(ea.1 n).2
  .obtain⟨E,K⟩:=ea.1 n;obtain⟨k1,k2,Y⟩:=N.lt k E;have hk:k∈ri true ops l:=by simpa using K
   refine⟨hk,k2,?_⟩;unfold Region.free at Y⊢;cases L:ops[k]? with
   |none=>rw[L]at Y;cases Y
   |some ok=>
    rw[L]at Y;have an:k≠i:=(pN (dj.1 k1).1).2;simp only[List.all_eq_true,List.mem_range,Bool.or_eq_true]at Y⊢;intro j J
    by_cases p:i=j
    .subst p;refine .inr ?_;rw[U];simp only[Bool.or_eq_true];have m:=wg U D I hk L an;obtain⟨q1,q2,q3⟩:=jZ m;refine .inr ?_;unfold Oper.apart at m⊢;rw[Bool.and_eq_true]at m⊢;cases hd:ok.dst with
     |none=>simp only[hd]at m⊢;refine⟨trivial,?_⟩;cases r:z.dst with
      |none=>rfl
      |some d=>simp only[r]at m⊢;exact(by simpa using m.1:(!(ok.looksAt ops).contains d)=true)
     |some d=>
      refine⟨?_,?_⟩
      .simp only[hd]at m;have h5:=m.2;simp only[Bool.and_eq_true]
       exact⟨h5,by cases r:z.dst with
        |none=>rfl
        |some d'=>simpa using λe:d'=d=>q2 d' r (by rw[hd,e])⟩
      .cases r:z.dst with
       |none=>rfl
       |some d'=>simpa using q1 d' r
    .rcases Y j J with(Z|Z)|Z
     .exact .inl (.inl Z)
     .rw[qZ true p]at Z;exact .inl (.inr Z)
     .exact .inr Z
  .intro j o g V r
   by_cases p:j=i
   .subst p;exact .inl (.head _)
   .have ao:(l.setIfInBounds i true).getD j true=false:=by rw[qZ true (gT p)];exact V
    have av:∀k∈ab,(l.setIfInBounds i true).getD k true=false:=λk hk=>(dj.1 (N.lt k hk).1).1
    have ax:∀k,(l.setIfInBounds i true).getD k true=false->(l.setIfInBounds i true).getD k false=true->False:=λk E K=>by
     rcases Nat.lt_or_ge k (l.setIfInBounds i true).size with h'|h'
     .simp[Array.getD_eq_getD_getElem?,Array.getElem?_eq_getElem h']at E K;rw[E]at K;cases K
     .simp[Array.getD_eq_getD_getElem?,Array.getElem?_eq_none h']at K
    have ad:=N.cl;simp only[Uu,if_true]at ad;have J:=ad j o g ao (λe n C=>(r e n C).imp (λh=>getD_set_true h) (λh=>(ea.1 h).1));have ay:j∈ri true ops (l.setIfInBounds i true):=J.elim (N.rd j) (λh=>(N.lt j h).1)
    have ae:j∈ri true ops l:=dj.2 ⟨V,o,g,λe n C=>by
     rcases r e n C with h|h
     .exact h
     .exfalso;obtain⟨_,o',y,A⟩:=dj.1 ay;rw[g]at y;injection y with y;subst y;exact ax _ (av _ (ea.1 h).1) (A e n C)⟩
    exact J.imp (λh=>cj _ (ea.2 ⟨h,by simpa using ae⟩)) (λh=>ea.2 ⟨h,by simpa using ae⟩)
  .rcases dz.1 n with rfl|n
   .exact hy.BY U H
   .obtain⟨E,K⟩:=ea.1 n;have F:c∈ri true ops l:=by simpa using K
    have G:c≠i:=(pN (dj.1 (N.rd c E)).1).2;obtain⟨_,oc,q,_⟩:=dj.1 F;have m:=wg U D I F q G
    have aj:c∈S:=by
     obtain⟨_,o',y,A⟩:=dj.1 F;exact hS c o' y (dj.1 F).1 G (λe r C=> .inl (A e r C))
    have az:ahd ops (l.setIfInBounds c true) i S:=λj o g V J r=>hS j o g (pN V).1 J (λe n C=>(r e n C).elim (λh=>(AM h).imp id (λe=>by rw[e];exact aj)) .inr)
    have O:∀a1 u,Px P ops w M (xs X S) u z v a1->Af P ops w M true X Q f ((l.setIfInBounds i true).setIfInBounds c true) (a1.put z.dst v) u->Af P ops w M true X Q (f+1) (l.setIfInBounds c true) a1 u:=λa1 u y1 h=>
     ih _ a1 u S az (ux D) (j0 I (gT G)) y1 (by rw[td _ _ (gT G)]at h;exact h)
    have B:∀u x,uO (xs X S) s u->Px P ops w M (xs X S) u z v (a.put oc.dst x):=λu x hu=>by
     obtain⟨e1,e2⟩:=yw hs U m a x;refine hy.imp (λ⟨y1,y2,y3⟩=>⟨by rw[e2];exact y1,y2,λt ht W hW=> ?_⟩) (λ⟨y1,y2⟩=>⟨by rw[e2];exact y1,y2⟩);have:=y3 t (uO.trans hu ht) W hW;unfold Oper.quietAt at*;rw[e1];exact this
    have R:∀o x,ops[c]?=some o->(a.put z.dst v).put o.dst x=(a.put o.dst x).put z.dst v:=λo x g=>by
     rw[q]at g;injection g with g;subst g;exact vp a v x (jZ m).2.1
    refine sB (λo g=> ?_) (λ_ h=>h) (λ_ h=>h) (λh0 _=>by rw[q]at h0;cases h0) (λo g h=> ?_) (λo x b ob g _ h=> ?_) (λo W x u W' g _ q1 q2 q3 q4=>⟨u,q1,q2,q3,?_⟩) (hc c E)
    .rw[q]at g;injection g with g;subst g;obtain⟨e1,e2⟩:=Iv hs q m a v;exact⟨e1.symm,e2.symm⟩
    .rw[R o _ g]at h;rw[q]at g;injection g with g;subst g;exact O _ _ (B s _ (uO.refl _ s)) h
    .rw[R o _ g]at h;rw[q]at g;injection g with g;subst g;exact O _ _ (B _ _ (uO.push _)) h
    .rw[R o _ g]at q4;rw[q]at g;injection g with g;subst g;exact O _ _ (B _ _ ((q1 rfl).mono (abl aj))) q4
theorem Ej{m:Oper}{v:cH}{p:Obj}{g ab:ay}(I:ops[k]?=some m)(hn:gu P m=true)(hg:m.guard=none)(hs:Region.noSelect ops=true)(hQ:∀a s t,s.Perm t->Q a s->Q a t):∀(f:Nat) (l:rX) (a:Act) (s:List En),k∈ri true ops l->Region.free .any ops l k=true->wa P m a g v p ab->(∀e∈s,¬e.B g.heap.size)->
 Af P ops w M true X Q f l a s->Af P ops w M true X Q f (l.setIfInBounds k true) (a.put m.dst v) (s++ [Cm k m g.heap.size v p])
 |0,l,a,s,J,_,_,_,h=>absurd J (ff (dr:=true) h.1)
 |f+1,l,a,s,J,ad,hv,E,h=>by
  obtain⟨C,Lt,N,hc⟩:=h.2;have K:=N.cl;simp only[Uu,if_true]at K
  by_cases L:k∈C
  .have q:=hc k L;unfold BY at q;simp only[I,hn,Region.wanted,hg,if_true]at q;obtain⟨S,y,h3⟩:=q;obtain⟨v2,ae,W2,q1,_,A⟩:=y g;have e:=hv.run.symm.trans q1.run;injection e with O e2;injection O with O;subst O e2
   have e3:p=ae:=by
    have:=hv.heap.symm.trans q1.heap;have h4:(g.heap.push p)[g.heap.size]?=(g.heap.push ae)[g.heap.size]?:=by rw[this]
    simpa using h4
   subst e3;exact rV f _ _ _ (h3 _ _ _ A E)
  .obtain⟨_,_,_,G⟩:=dj.1 J
   have R:k∈Lt:=(K k m I (dj.1 J).1 (λe b E=>by
    obtain⟨_,o',F,G⟩:=dj.1 J;rw[I]at F;injection F with F;subst F;exact .inl (G e b E))).resolve_left L
   obtain⟨aj,_,_⟩:=N.ne (λe=>by rw[e]at R;cases R);have D:∀c∈C,c∈ri true ops l/\c≠k:=λc z=>⟨N.rd c z,λe=>L (e▸z)⟩;refine⟨λh0=> ?_,C,Lt.filter (λj=>j !=k),⟨λc z=>j0 (D c z).1 (D c z).2,λj z=> ?_,λ_=>⟨aj,rfl,hs⟩,?_⟩,λc z=> ?_⟩
   .obtain⟨c,r,rfl⟩:=List.exists_cons_of_ne_nil aj;exact absurd (j0 (D c (.head _)).1 (D c (.head _)).2) (ff (dr:=true) h0)
   .obtain⟨q,y⟩:=ea.1 z;obtain⟨k1,k2,k3⟩:=N.lt j q;exact⟨j0 k1 (ek y),k2,ux k3⟩
   .intro j o d hl b;obtain⟨q,y⟩:=pN hl;exact(K j o d q (λe z E=>(b e z E).elim (λh=>(AM h).imp id (λe=>by rw[e];exact R)) (λh=> .inr (ea.1 h).1))).imp id (λh=>ea.2 ⟨h,by simpa using y⟩)
   .obtain⟨q,y⟩:=D c z;obtain⟨_,U,n,_⟩:=dj.1 q;have V:=wg I ad J q n y;have al:∀x,wa P m (a.put U.dst x) g v p ab:=λx=>⟨by rw[(yw hs I V a x).1];exact hv.run,hv.heap,hv.Jw⟩;have av:∀x,(a.put U.dst x).put m.dst v=(a.put m.dst v).put U.dst x:=λx=>(vp a v x (jZ V).2.1).symm
    have Y:∀x u,(∀e∈u,¬e.B g.heap.size)->Af P ops w M true X Q f (l.setIfInBounds c true) (a.put U.dst x) u->Af P ops w M true X Q f ((l.setIfInBounds k true).setIfInBounds c true) ((a.put m.dst v).put U.dst x) (u++ [Cm k m g.heap.size v p]):=λx u hu h=>by
     have:=Ej I hn hg hs hQ f (l.setIfInBounds c true) (a.put U.dst x) u (j0 J (gT y)) (ux ad) (al x) hu h;rw[av,td _ _ y]at this;exact this
    refine sB (λo d=> ?_) (λW hW=>hW.less) (λb' Z e b=>Z e (hJ _ b)) (λh0 _=>by rw[n]at h0;cases h0) (λo d h=> ?_) (λo x b' ax d Z h=> ?_) (λo W x u W' d hW q1 q2 A q4=> ?_) (hc c z)
    .rw[n]at d;injection d with d;subst d;exact Iv hs n V a v
    .rw[n]at d;injection d with d;subst d;exact Y _ s E h
    .rw[n]at d;injection d with d;subst d
     have h5:=Y x _ (λe b=>by
      rcases bT.1 b with b|b
      .exact E e b
      .obtain rfl:=ar.1 b;rw[AE];exact λe=>Z (Cm k m g.heap.size v p) (pU _ (.head _)) (by rw[AE,e])) h
     exact xF hQ f _ _ _ _ (by rw[bf,bf];exact(List.perm_append_comm (l₁:= [Cm c U b' x ax]) (l₂:= [Cm k m g.heap.size v p])).append_left s) h5
    .rw[n]at d;injection d with d;subst d;have A:=A.f (UX I hn);have an:g.heap.size<W.heap.size:=hW.ins (Cm k m g.heap.size v p) (pU _ (.head _)) _ (by rw[AE]);have ao:∀e∈u,¬e.B g.heap.size:=λe b hB=>(A.new e b _ hB).elim (λ⟨x,hx,O⟩=>E x hx O) (λh=>by omega);refine⟨u++ [Cm k m g.heap.size v p],λ_ e b=> ?_,q2.more (λaz=>hW.own (Cm k m g.heap.size v p) (pU _ (.head _)) az) (λi H=>by rw[AE]at H;subst H;exact aL an A.size) (λe b i q y=>by rw[AE]at y;subst y;exact ao e b q) ?_,⟨λ_=>⟨λj hj aB=>A.et j hj λe b=>aB e (hJ _ b),A.size,λe b i H=> ?_⟩⟩,Y x u ao q4⟩
     .rcases bT.1 b with b|b
      .exact(q1 rfl e b).imp id λ⟨qs,h5,h6⟩=>⟨qs,hJ _ h5,h6⟩
      .obtain rfl:=ar.1 b;exact .inr ⟨_,pU _ (.head _),rfl⟩
     .exact(Cm k m g.heap.size v p).loc _ _ _ (hW.en (Cm k m g.heap.size v p) (pU _ (.head _))) (λi H=>by rw[AE]at H;subst H;exact A.et _ an E) A.size
     .rcases bT.1 b with b|b
      .exact(A.new e b i H).imp (λ⟨x,hx,O⟩=>⟨x,hJ _ hx,O⟩) id
      .obtain rfl:=ar.1 b;exact .inl ⟨_,pU _ (.head _),H⟩
theorem Nf{g:Oper}(i:ops[k]?=some g)(H:gu P g=true)(I:g.guard=none)(J:Region.noSelect ops=true):∀(f:Nat) (l:rX) (a:Act) (s:List En) (W:ay),Hp w M s W->k∈ri true ops l->Region.free .any ops l k=true->
 Af P ops w M true X Q f l a s-> ∀j,∃v m W',wa P g a j v m W'/\enK k g j v m W'
 |0,l,a,s,W,_,n,_,h=>absurd n (ff (dr:=true) h.1)
 |f+1,l,a,s,W,L,n,q,h=>by
  obtain⟨C,O,N,K⟩:=h.2;have u:=N.cl;simp only[Uu,if_true]at u
  by_cases d:k∈C
  .have p:=K k d;unfold BY at p;simp only[i,H,Region.wanted,I,if_true]at p;obtain⟨S,B,_⟩:=p;exact λj=>by obtain⟨v,m,W',R,U,_⟩:=B j;exact⟨v,m,W',R,U⟩
  .have y:k∈O:=(u k g i (dj.1 n).1 (λe V Y=>by
    obtain⟨_,o',b,z⟩:=dj.1 n;rw[i]at b;injection b with b;subst b;exact .inl (z e V Y))).resolve_left d
   obtain⟨F,_,_⟩:=N.ne (λe=>by rw[e]at y;cases y);obtain⟨c,r,rfl⟩:=List.exists_cons_of_ne_nil F;have p:=N.rd c (.head _);have B:c≠k:=λe=>d (e▸ .head _);obtain⟨_,oc,A,_⟩:=dj.1 p;have G:=wg i q n p A B;obtain⟨a',t,W',k1,Z,k3⟩:=RL L (K c (.head _));intro j;obtain⟨v,m,W2,D,k5⟩:=Nf i H I J f _ a' t W' Z (j0 n (gT B)) (ux q) k1 j;refine⟨v,m,W2,?_,k5⟩;rcases k3 with rfl|⟨o,x,E,rfl⟩
   .exact D
   .rw[A]at E;injection E with E;subst E;exact⟨by rw[<-(yw J i G a x).1];exact D.run,D.heap,D.Jw⟩
theorem zo{Q'}{J}{W}(d:Hp w M s W)(h:∀a t W',Hp w M t W'->K a t->J a W')(b:BY P ops w M dr X c K a s):wpOp P ops Q' c J a W:=by
 unfold BY at b;unfold wpOp;cases k:ops[c]? with
 |none=>rw[k]at b;exact h _ _ _ d b
 |some o=>
  rw[k]at b;dsimp only at b⊢
  split
  .rename_i j;rw[if_pos j]at b;refine .inl ?_;unfold Oper.wp
   split at b
   .obtain⟨S,k1,m⟩:=b;obtain⟨v,p,W',l,q,y⟩:=k1 W;rw[l.run];exact h _ _ _ (JV d l q) (m W.heap.size v p y (J9 d))
   .have f:=b W d;generalize(execOp a.eval o).run P W=r at*;cases r with
    |ok n z=>
     cases n<;>simp only[Tl]at f<;>simp only[Oper.upon]
     case value u=>obtain⟨t,_,g,_,i⟩:=f;exact h _ _ _ g i
     case skip=>obtain⟨t,_,g,_,i⟩:=f;exact h _ _ _ g i
     case enter fi args=>exact f.mono λe A ⟨v,t,B,_,g,_,i⟩=>by subst B;exact h _ _ _ g i
    |halt x z=>simp only[Tl]at f
  .rename_i j;rw[if_neg j]at b;exact h _ _ _ d b
theorem LI{Q'}(J:∀a s t,s.Perm t->Q a s->Q a t)(g:∀a s W,Hp w M s W->Q a s->Q' .normal a W):∀(n f:Nat) (l:rX) (a:Act) (s:List En) (W:ay) (U:iT),U.length=n->(∀j,l.getD j true=false->j∈U)->Hp w M s W->
 Af P ops w M true X Q f l a s->wpAny P .any ops Q' n l a W:=by
 have k:∀f l a s W,Hp w M s W->Af P ops w M true X Q f l a s->Region.ready .any ops l= []->Q' .normal a W:=λf l a s W c h x=>by
  cases f with
  |zero=>exact g _ _ _ c h.2
  |succ f=>exact g _ _ _ c (h.1 x)
 intro n
 induction n with
 |zero=>
  intro f l a s W U z y c h
  have x:Region.ready .any ops l= []:=List.eq_nil_iff_forall_not_mem.2 λj A=>by
   have:=y j (dj.1 A).1;rw[nY.1 z]at this;cases this
  exact⟨x,k f l a s W c h x⟩
 |succ n H=>
  intro f l a s W U z y c h;refine⟨k f l a s W c h,λi m=> ?_⟩;have o:(U.erase i).length=n:=by rw[List.length_erase_of_mem (y i (dj.1 m).1),z];rfl
  have p:∀j,(l.setIfInBounds i true).getD j true=false->j∈U.erase i:=λj A=>by
   obtain⟨K,L⟩:=pN A;exact(List.mem_erase_of_ne L).2 (y j K)
  cases f with
  |zero=>exact absurd m (ff (dr:=true) h.1)
  |succ f=>
   obtain⟨C,Lt,N,O⟩:=h.2;have q:=N.cl;simp only[Uu,if_true]at q;obtain⟨B,R,b,r⟩:=dj.1 m;rcases q i R b B (λe S V=> .inl (r e S V))with Y|D
   .exact zo c (λa' t W' E Z=>H f _ a' t W' _ o p E Z) (O i Y)
   .obtain⟨_,d,u⟩:=N.lt i D;obtain⟨_,_,I⟩:=N.ne (λe=>by rw[e]at D;cases D);unfold Ze at d;simp only[b,Bool.and_eq_true,Option.isNone_iff_eq_none]at d;obtain⟨v,ob,W',F,G⟩:=Nf b d.1 d.2 I (f+1) l a s W c m u h W;unfold wpOp;simp only[b,Region.wanted,d.2,if_true];refine .inl ?_;unfold Oper.wp;rw[F.run];exact H (f+1) _ _ _ _ _ o p (JV c F G) (Ej b d.1 d.2 I J (f+1) l a s m u F (J9 c) h)
theorem Sn(a:k<ops.size)(hl:∀j,j<ops.size->l.getD j true=decide (j<k)):ri false ops l= [k]:=by
 unfold ri;have e:(List.range ops.size).find? (λi=> !l.getD i true)=some k:=List.find?_range_eq_some.2 ⟨by rw[hl k a];simp,by simpa using a,λj b=>by rw[hl j af];simp[b]⟩;rw[e];rfl
theorem BM{Q':Exit->Act->World->Prop}(b:∀a s W,Hp w M s W->Q a s->Q' .normal a W):∀(f n:Nat) (l:rX) (a:Act) (s:List En) (W:ay),n+f=ops.size->l.size=ops.size->(∀j,j<ops.size->l.getD j true=decide (j<n))->Hp w M s W->
 Af P ops w M false X Q f l a s->wpOps P ops Q' (List.range' n f) a W
 |0,n,l,a,s,W,_,_,_,e,h=>b _ _ _ e h.2
 |f+1,n,l,a,s,W,v,o,i,e,h=>by
  rw[List.range'_succ,wpOps_cons];have p:=Sn (ops:=ops) (l:=l) (k:=n) af i;obtain⟨C,x,N,q⟩:=h.2;have c:=N.cl;simp only[Uu,Bool.false_eq_true,if_false]at c;refine zo e (λa' t W' g r=>BM b f (n+1) _ a' t W' af (ek o) (λj u=> ?_) g r) (q n (c n (by rw[p];exact .head _)))
  by_cases d:n=j
  .subst d;rw[Array.getD_eq_getD_getElem?,Array.getElem?_setIfInBounds_self_of_lt af];simp
  .rw[qZ true d,i j u]
   by_cases m:j<n
   .rw[fj m,fj af]
   .rw[eM m,eM af]
theorem zp{id}{Q}{W}{r:List Oper}(hm:P.follows .mixedOrders=true)(g:Hp w M s W)
 (h:Af P r.toArray w M dr X (λa s=> ∀W,Hp w M s W->Q .normal a W) r.length (Array.replicate r.length false) a s):(Code.region id r.toArray dr).wp P Q a W:=by
 have e:r.toArray.size=r.length:=bj;have b:∀j,j<r.length->(Array.replicate r.length false).getD j true=false:=λj c=>by simp[Array.getD_eq_getD_getElem?,c]
 cases dr
 .refine wp_region ?_;rw[List.range_eq_range'];exact BM (Q:=λa s=> ∀W,Hp w M s W->Q .normal a W) (λa s w d h=>h w d) _ 0 (Array.replicate r.length false) a s W af bj (λj c=>by rw[b j af];simp) g (by rw[e];exact h)
 .refine wp_region_any hm ?_;rw[e];refine LI (Q:=λa s=> ∀W,Hp w M s W->Q .normal a W) (λa s t i h W k=>h W (k.perm i.symm)) (λa s w d h=>h w d) _ _ _ a s _ (List.range r.length) bj (λj c=> ?_) g.drew h;rcases Nat.lt_or_ge j r.length with f|f
  .simpa using f
  .simp[Array.getD_eq_getD_getElem?,f]at c
def fH(P:Program)(dr:Bool)(ops:Array Oper)(l:Array Bool)(i:Nat):Bool:=
 (ri dr ops l).contains i&&(!dr||(Region.noSelect ops&&Region.free .any ops l i))&&match ops[i]? with|some o=> !gu P o|none=>false
theorem Ng{i}{o}{v}(k:ops[i]?=some o)(q:fH P dr ops l i=true)
 (r:(Region.wanted o (yielded ops a.tmps)=true/\quY P w M (leq dr (xn X ops l i)) s o a v)\/(Region.wanted o (yielded ops a.tmps)=false/\v=undef)) (h:Af P ops w M dr X Q f (l.setIfInBounds i true) (a.put o.dst v) s):Af P ops w M dr X Q (f+1) l a s:=by
 simp only[fH,Bool.and_eq_true,k,Bool.not_eq_true']at q;obtain⟨⟨d,b⟩,e⟩:=q;cases dr
 .have g:i∈ri false ops l:=by simpa using d
  have m:ri false ops l= [i]:=by
   unfold ri at g⊢;simp only[Bool.false_eq_true,if_false,Option.mem_toList]at g⊢;rw[g];rfl
  refine⟨λu=>absurd g (ff u),[i],[],⟨λc n=>(by obtain rfl:=ar.1 n;exact g),(λ_ h=>by cases h),(λh=>absurd rfl h),?_⟩,λc n=> ?_⟩
  .simp only[Uu,Bool.false_eq_true,if_false,m];exact λj x=>x
  .obtain rfl:=ar.1 n;rcases r with⟨p,y⟩|⟨p,rfl⟩
   .exact DQ k e p (y s rfl) h
   .unfold BY;simp only[k,p,Bool.false_eq_true,if_false];exact h
 .simp only[Bool.not_true,Bool.false_or,Bool.and_eq_true]at b;obtain⟨S,z,A⟩:=Xg X ops l i;exact O8 k b.1 f l a s S z b.2 (ek d) (r.imp (λ⟨m,B⟩=>⟨m,e,λt C=>B t (uO.mono A C)⟩) id) h
def ip(P:Program)(dr:Bool)(ops:Array Oper)(l:Array Bool)(cs:List Nat):Bool:=
 cs.all (λc=>(ri dr ops l).contains c)&& !cs.isEmpty&&if dr then
  (
   (ri dr ops l).filter (λk=> !cs.contains k)).all (λk=>Ze P ops k&&Region.free .any ops l k)&&Region.noSelect ops&&(List.range ops.size).all λj=>l.getD j true||cs.contains j||((ri dr ops l).filter (λk=> !cs.contains k)).contains j||match ops[j]? with
   |none=>true
   |some o=>o.after.any λe=>Region.binds .any e&& !l.getD e.on false&& !((ri dr ops l).filter (λk=> !cs.contains k)).contains e.on
 else true
theorem Jc{cs}(u:ip P dr ops l cs=true)(h:∀c∈cs,BY P ops w M dr X c (Af P ops w M dr X Q f (l.setIfInBounds c true)) a s):Af P ops w M dr X Q (f+1) l a s:=by
 simp only[ip,Bool.and_eq_true,List.all_eq_true]at u;obtain⟨⟨p,q⟩,i⟩:=u;have b:∀c∈cs,c∈ri dr ops l:=λc g=>by simpa using p c g
 have m:cs≠ []:=by simpa using q
 have v:∃c,c∈cs:=List.exists_mem_of_ne_nil _ m;have x:ri dr ops l= []->False:=λh=>by obtain⟨c,g⟩:=v;exact ff h (b c g)
 cases dr
 .refine⟨λh=>(x h).elim,cs,[],⟨b,(λ_ h=>by cases h),(λh=>absurd rfl h),?_⟩,h⟩;obtain⟨c,g⟩:=v
  have A:ri false ops l= [c]:=by
   have b:=b c g;unfold ri at b⊢;simp only[Bool.false_eq_true,if_false,Option.mem_toList]at b⊢;rw[b];rfl
  simp only[Uu,Bool.false_eq_true,if_false,A];exact λj B=>by obtain rfl:=ar.1 B;exact g
 .simp only[if_true,Bool.and_eq_true,List.all_eq_true]at i;obtain⟨⟨C,D⟩,E⟩:=i;refine⟨λh=>(x h).elim,cs,(ri true ops l).filter (λk=> !cs.contains k),⟨b,λk y=> ?_,λ_=>⟨m,rfl,D⟩,?_⟩,h⟩
  .have:=C k y;exact⟨(ea.1 y).1,this.1,this.2⟩
  .intro j o z F G;have d:=E j (by simpa using(aT.1 z).1);simp only[F,Bool.false_or,Bool.or_eq_true,z]at d;rcases d with(d|d)|d
   .exact .inl (ek d)
   .exact .inr (ek d)
   .exfalso;obtain⟨e,r,n⟩:=Array.any_eq_true'.1 d;simp only[Bool.and_eq_true,Bool.not_eq_true']at n;rcases G e r n.1.1 with t|t
    .rw[t]at n;cases n.1.2
    .have:=n.2;rw[<-Bool.not_eq_true]at this;exact this (ek t)
end
def loc:List Nat->Nat->Nat×Nat
 | [],o=>(0,o)
 |n::L,o=>if o<n then(0,o)else((loc L (o -n)).1+1,(loc L (o -n)).2)
def lk(L:List Nat)(ps:List (List Value))(o:Nat):Option Value:=(ps[(loc L o).1]?).bind (·[(loc L o).2]?)
theorem uB:∀(L:iT) (o:Nat),o=kj L (loc L o).1+(loc L o).2
 | [],o=>by simp[loc,kj]
 |n::L,o=>by
  unfold loc
  split
  .simp[kj]
  .have:=uB L (o -n);simp only[kj,List.take_succ_cons,List.sum_cons]at this⊢;omega
theorem Lay.lk{W}{g}{ty}{ps}(h:Lay W g ty ps){L}(a:ps.map List.length=L){o}{v}(hv:lk L ps o=some v):W.cell? ⟨g,o,none⟩=some v:=by
 unfold Go.Spk.lk at hv;obtain⟨q,b,c⟩:=Option.bind_eq_some_iff.1 hv;exact h.cell _ _ o (by rw[a];exact(uB L o).symm) b c
theorem Ya{α:Type}{x}{l:List α}:(x::l)[0]?=some x:=rfl
theorem Nt{α:Type}{a x}{l:List α}:(a::x::l)[1]?=some x:=rfl
theorem Tz{α:Type}{a a1 x}{l:List α}:(a::a1::x::l)[2]?=some x:=rfl
theorem PI{α:Type}{a a1 a2 x}{l:List α}:(a::a1::a2::x::l)[3]?=some x:=rfl
theorem TA{α:Type}{a a1 a2 a3 x}{l:List α}:(a::a1::a2::a3::x::l)[4]?=some x:=rfl
theorem TZ{α:Type}{a a1 a2 a3 a4 x}{l:List α}:(a::a1::a2::a3::a4::x::l)[5]?=some x:=rfl
theorem ZW{α:Type}{a a1 a2 a3 a4 a5 x}{l:List α}:(a::a1::a2::a3::a4::a5::x::l)[6]?=some x:=rfl
theorem ZX{α:Type}{a a1 a2 a3 a4 a5 a6 x}{l:List α}:(a::a1::a2::a3::a4::a5::a6::x::l)[7]?=some x:=rfl
theorem at8{α:Type}{a a1 a2 a3 a4 a5 a6 a7 x}{l:List α}:(a::a1::a2::a3::a4::a5::a6::a7::x::l)[8]?=some x:=rfl
theorem at9{α:Type}{a a1 a2 a3 a4 a5 a6 a7 a8 x}{l:List α}:(a::a1::a2::a3::a4::a5::a6::a7::a8::x::l)[9]?=some x:=rfl
def uS(P:Program)(a:TypeId):Bool:=match P.underlying a with|some d=>d.isRow|none=>false
def EC(P:Program)(a:TypeId):Bool:=match P.underlying a with|some d=> !d.isRow|none=>false
def Se(o:Oper):Bool:=match o.op with
 | .load .. | .store .. | .alloc _| .box .. | .buildSlice .. =>false
 | .call c=>(match c.callee with| .builtin _=>true|_=>false)
 |_=>true
structure TE(w:World)(M:List Nat)(Q:Exit->Act->World->Prop)(e:Exit)(a:Act)(s:List En):Prop where
 o:∀W,Hp w M s W->Q e a W
structure TC(P:Program)(w:World)(M:List Nat)(c:Code)(Q:Exit->Act->World->Prop)(a:Act)(s:List En):Prop where
 o:∀W,Hp w M s W->c.wp P Q a W
structure T(n:Nat)(P:Program)(dr:Bool)(ops:Array Oper)(w:World)(M X:List Nat)(Q:Exit->Act->World->Prop)(f:Nat)(l:Array Bool)(a:Act)(s:List En):Prop where
 o:Af P ops w M dr X (λa s=> ∀W,Hp w M s W->Q .normal a W) f l a s
structure TO(cs:List Nat)(P:Program)(dr:Bool)(ops:Array Oper)(l:Array Bool)(w:World)(M X:List Nat)(i:Nat)(K:Act->List En->Prop)(a:Act)(s:List En):Prop where
 b:ip P dr ops l cs=true
 o:BY P ops w M dr X i K a s
def zA(P:Program)(dr:Bool)(w:World)(M X:List Nat)(s:List En)(o:Oper)(a:Act)(v:Value):Prop:=quY P w M (leq dr X) s o a v
section
variable {P:Program}{dr:Bool}{ops:Array Oper}{w:World}{M X:List Nat}{Q:Exit->Act->World->Prop}{f n n':Nat}{l:Array Bool}{a a':Act}{s s':List En}{o:Oper}{v:Value}{x y:Code}{id id':Nat}
theorem T.qf(n:Nat)(hq:zA P dr w M (xn X ops l n) s o a v)(h:T n' P dr ops w M X Q f (l.setIfInBounds n true) a' s)(b:ops[n]?=some o:=by rfl)(c:fH P dr ops l n=true:=by decide+kernel)(d:Region.wanted o (yielded ops a.tmps)=true:=by rfl)
 (e:a.put o.dst v=a':=by(go_simp;first|done|rfl)) (g:n+1=n':=by(simp only[Nat.reduceAdd];rfl)):T n P dr ops w M X Q (f+1) l a s:=by
 subst e;exact⟨Ng b c (.inl ⟨d,hq⟩) h.o⟩
theorem zA.plain(b:Se o=true)(h:∀W,(execOp a.eval o).run P W= .ok (.value v) W):zA P dr w M X s o a v:=λ_ _ W _=>aD (h W)
theorem oL(W:ay)(b:Addr)(c:fg)(g:W.cell? b=some v)(e:EC P c=true):(Instr.loadAt c (.pointer (some b))).run P W= .ok v W:=by
 unfold EC at e;cases f:P.underlying c with
 |none=>simp[f]at e
 |some d=>
  have a:(isAgg c).run P W= .ok false W:=by
   unfold isAgg;rw[Sem.run_bind,run_underlying f W];cases d<;>simp_all
  simp[Instr.loadAt,Instr.sureAddr,loadVar,a,g]
theorem zA.ldc(p:Nat){c}{z}{j g b}{m}{ty}{L}{ps}(d:o.op= .load c z)(e:a.eval z= .pointer (some ⟨g,b,none⟩))(f:s[p]?=some (bl j g m (kL ty L) ps))
 (h:(dr&&X.contains (j*1000+(loc L b).1))=false) (hv:lk L ps b=some v) (i:EC P c=true):zA P dr w M X s o a v:=λt k W l=>by
 obtain⟨x,n,q,r⟩:=l.yj k f;have u:W.cell? ⟨g,b,none⟩=some v:=n.lk q (by unfold lk at hv⊢;rw[r _ h];exact hv);refine aD ?_;unfold execOp;simp only[d,e,Sem.run_bind,oL W _ c u i,Result.andThen_ok,Sem.run_pure]
theorem lK{W}{b a}{cs}(c:fg)(g:At W b a cs)(e:uS P c=true)(h:(P.info? c).map (·.size)=some cs.size):(Instr.loadAt c (.pointer (some ⟨b,a,none⟩))).run P W= .ok (.agg cs) W:=by
 unfold uS at e;cases f:P.underlying c with
 |none=>simp[f]at e
 |some d=>rw[f]at e;exact run_loadAt_mid W b a c cs.toList d g.1 f e (ek h)
theorem zA.ldr(p:Nat){ty'}{z}{j g b k}{m}{ty}{L}{ps}{q}(h:o.op= .load ty' z)(i:a.eval z= .pointer (some ⟨g,b,none⟩))(l:s[p]?=some (bl j g m (kL ty L) ps))
 (n:(dr&&X.contains (j*1000+(loc L b).1))=false) (F:(loc L b).2=0) (hv:ps[(loc L b).1]?=some q) (r:uS P ty'=true) (u:L[(loc L b).1]?=some k) (x:(P.info? ty').map (·.size)=some k) (hq: .agg q.toArray=v):zA P dr w M X s o a v:=λt y W A=>by
 obtain⟨d,B,f,C⟩:=A.yj y l;have c:d[(loc L b).1]?=some q:=by rw[C _ n];exact hv
 have D:q.length=k:=by
  have e:(d.map List.length)[(loc L b).1]?=some k:=by rw[f];exact u
  rw[bi,c]at e;simpa using e
 have E:=B.part _ b q (by rw[f];have:=uB L b;omega) c;refine aD ?_;unfold execOp;simp only[h,i,Sem.run_bind,lK ty' E r (by rw [x];simp [D]),Result.andThen_ok,Sem.run_pure,hq]
theorem zA.ldm(p m:Nat){ty'}{z}{j g b}{mu}{ty}{L}{ps}(hv: .agg (((ps.drop (loc L b).1).take m).flatten.toArray)=v)(i:o.op= .load ty' z)(l:a.eval z= .pointer (some ⟨g,b,none⟩))(n:s[p]?=some (bl j g mu (kL ty L) ps))
 (d:(dr&&(List.range m).any λk=>X.contains (j*1000+((loc L b).1+k)))=false) (E:(loc L b).2=0) (q:uS P ty'=true) (r:(P.info? ty').map (·.size)=some ((L.drop (loc L b).1).take m).sum):zA P dr w M X s o a v:=λt u W x=>by
 obtain⟨y,A,e,B⟩:=x.yj u n
 have f:(y.drop (loc L b).1).take m=(ps.drop (loc L b).1).take m:=by
  apply jW;intro k
  by_cases c:k<m
  .rw[js c,js c,List.getElem?_drop,List.getElem?_drop];refine B _ ?_;cases C:dr
   .rfl
   .rw[C,Bool.true_and]at d;rw[Bool.true_and];have:=List.any_eq_false.1 d k (ek c);simpa using this
  .rw[eI (by rw[aO];omega),eI (by rw[aO];omega)]
 have h:=A.run (loc L b).1 m b _ (by rw[e];have:=uB L b;omega) rfl;rw[f]at h;refine aD ?_;unfold execOp
 have D:(((ps.drop (loc L b).1).take m).flatten.toArray).size=((L.drop (loc L b).1).take m).sum:=by
  rw[<-f,dH,jz,List.map_take,List.map_drop,e]
 simp only[i,l,Sem.run_bind,lK ty' h q (by rw [r,D]),Result.andThen_ok,Sem.run_pure,hv]
theorem Tg(k:IntKind)(xs:aR):Value.agg (xs.map (Value.int k)).toArray= .agg (ai k xs):=rfl
theorem Tf(cs:gJ):Value.agg cs.toList.toArray= .agg cs:=bj
theorem P9(k:IntKind)(xs:aR):(Value.agg (ai k xs)).cells.toList=xs.map (Value.int k):=by simp[Value.cells,ai]
theorem abP(k:IntKind)(xs ys:aR):(Value.agg (ai k (xs++ys))).cells.toList= [xs.map (Value.int k),ys.map (Value.int k)].flatten:=by simp[Value.cells,ai]
theorem P7(cs:gJ):(Value.agg cs).cells.toList=cs.toList:=rfl
theorem JJ{v:cH}(h:v.oneCell'=true):v.cells.toList= [v]:=by cases v<;>first|rfl|(simp[Value.oneCell']at h)
theorem Er(h:v.oneCell'=true):v.cells.all (·.oneCell')=true:=by cases v<;>first|(simp[Value.oneCell']at h;done)|simp[Value.cells,Value.oneCell']
theorem Jp(l:gF)(h:l.all (·.oneCell')=true):(Value.agg l.toArray).cells.all (·.oneCell')=true:=by
 show l.toArray.all (·.oneCell')=true;rw[mR];intro v a;exact fX.1 h v (ek a)
theorem aba(k:IntKind)(xs:aR):(ai k xs).toList=xs.map (Value.int k):=by simp[ai]
theorem T.q(n:Nat)(h:T n' P dr ops w M X Q f (l.setIfInBounds n true) a' s)(b:ops[n]?=some o:=by rfl)(c:fH P dr ops l n=true:=by decide+kernel)(d:Region.wanted o (yielded ops a.tmps)=true:=by rfl)
 (hq:zA P dr w M (xn X ops l n) s o a v:=by(apply zA.plain rfl;intro W;go_simp;first|done|with_reducible rfl))
 (e:a.put o.dst v=a':=by(go_simp;first|done|rfl)) (g:n+1=n':=by(simp only[Nat.reduceAdd];rfl)):T n P dr ops w M X Q (f+1) l a s:=T.qf n hq h b c d e g
theorem T.lc(n:Nat){p:Nat}{ty'}{z}{j g b}{m}{ty}{L}{ps}(h:T n' P dr ops w M X Q f (l.setIfInBounds n true) a' s)(c:ops[n]?=some o:=by rfl)(d:o.op= .load ty' z:=by rfl)(e:fH P dr ops l n=true:=by decide+kernel)(i:Region.wanted o (yielded ops a.tmps)=true:=by rfl)(k:EC P ty'=true:=by decide+kernel)
 (q:a.eval z= .pointer (some ⟨g,b,none⟩):=by rfl) (r:s[p]?=some (bl j g m (kL ty L) ps):=by first|exact Ya|exact Nt|exact Tz|exact PI|exact TA|exact TZ|exact ZW|exact ZX|exact at8|exact at9) (t:(dr&&(xn X ops l n).contains (j*1000+(loc L b).1))=false:=by decide+kernel) (hv:lk L ps b=some v:=by rfl)
 (u:a.put o.dst v=a':=by(go_simp;first|done|rfl)) (x:n+1=n':=by(simp only[Nat.reduceAdd];rfl)):T n P dr ops w M X Q (f+1) l a s:=T.qf n (zA.ldc p d q r t hv k) h c e i u x
theorem T.lr(n:Nat){p:Nat}{ty'}{z}{j g b k}{m}{ty}{L}{ps}{q}(h:T n' P dr ops w M X Q f (l.setIfInBounds n true) a' s)(c:ops[n]?=some o:=by rfl)(d:o.op= .load ty' z:=by rfl)(e:fH P dr ops l n=true:=by decide+kernel)(i:Region.wanted o (yielded ops a.tmps)=true:=by rfl)(r:uS P ty'=true:=by decide+kernel)
 (t:a.eval z= .pointer (some ⟨g,b,none⟩):=by rfl) (u:s[p]?=some (bl j g m (kL ty L) ps):=by first|exact Ya|exact Nt|exact Tz|exact PI|exact TA|exact TZ|exact ZW|exact ZX|exact at8|exact at9) (x:(dr&&(xn X ops l n).contains (j*1000+(loc L b).1))=false:=by decide+kernel) (y:(loc L b).2=0:=by decide+kernel) (A:L[(loc L b).1]?=some k:=by rfl) (hz:(P.info? ty').map (·.size)=some k:=by decide+kernel) (hv:ps[(loc L b).1]?=some q:=by rfl) (hq: .agg q.toArray=v:=by first|exact Tg _ _|exact Tf _|exact rfl)
 (B:a.put o.dst v=a':=by(go_simp;first|done|rfl)) (C:n+1=n':=by(simp only[Nat.reduceAdd];rfl)):T n P dr ops w M X Q (f+1) l a s:=T.qf n (zA.ldr p d t u x y hv r A hz hq) h c e i B C
theorem T.sa(n:Nat){arr e}{z}{ad}{m len cap}(h:T n' P dr ops w M X Q f (l.setIfInBounds n true) a' s)(b:ops[n]?=some o:=by rfl)(c:o.op= .sliceToArrayPointer arr z:=by rfl)(d:fH P dr ops l n=true:=by decide+kernel)(g:Region.wanted o (yielded ops a.tmps)=true:=by rfl)
 (i:a.eval z= .slice ad len cap:=by rfl) (j:P.underlying arr=some (.array m e):=by rfl) (hl:m<=len:=by first|decide|(simp only[*];done)|omega)
 (k:a.put o.dst (.pointer ad)=a':=by(go_simp;first|done|rfl)) (p:n+1=n':=by(simp only[Nat.reduceAdd];rfl)):T n P dr ops w M X Q (f+1) l a s:=
 T.qf n (λt _ W _=>aD (by unfold execOp;simp only[c,i,Sem.run_bind,run_arrayAt (P:=P) (w:=W) arr e m ad len cap j hl,Result.andThen_ok,Sem.run_pure])) h b d g k p
theorem Bw{α:Type}{l:List α}{i}{k}(h:l[i]?=some k):l.set i k=l:=by
 obtain⟨b,a⟩:=aI.1 h;rw[<-a,List.set_getElem_self]
theorem GM:∀(vs:gF) (pre old post:gF),old.length=vs.length->(vs.zipIdx.foldl (λa (x:Value×Nat)=>a.setIfInBounds (pre.length+x.2) x.1) (pre++old++post).toArray)=(pre++vs++post).toArray:=by
 have key:∀(vs:List Value) (k:Nat) (pre old post:List Value),old.length=vs.length->((vs.zipIdx k).foldl (λa (x:Value×Nat)=>a.setIfInBounds (pre.length+x.2 -k) x.1) (pre++old++post).toArray)=(pre++vs++post).toArray:=by
  intro vs
  induction vs with
  |nil=>
   intro k pre old post b;obtain rfl:old= []:=by simpa using b
   rfl
  |cons v r c=>
   intro k pre old post b;cases old with
   |nil=>simp at b
   |cons x old=>
    rw[List.zipIdx_cons,List.foldl_cons];have e:(pre++x::old++post).toArray.setIfInBounds (pre.length+k -k) v=((pre++ [v])++old++post).toArray:=bj;rw[e];have:=c (k+1) (pre++ [v]) old post (ek b);rw[am,List.length_singleton]at this
    have d:(λ(a:Array Value) (x:Value×Nat)=>a.setIfInBounds (pre.length+x.2 -k) x.1)=λa x=>a.setIfInBounds (pre.length+1+x.2 -(k+1)) x.1:=by
     funext a x;rw[show pre.length+1+x.2 -(k+1)=pre.length+x.2 -k by omega]
    rw[d,this];simp
 intro vs pre old post b;have:=key vs 0 pre old post b;simpa using this
theorem vA{a:Nat->Option (Nat×Nat)}{L:iT}(g:∀i n,L[i]?=some n->a i=some (kj L i,n)):∀(ps:List (Nat×Value)) (qs:qu),qs.map List.length=L->(∀x∈ps,L[x.1]?=some x.2.cells.size)->
 Instr.fill a qs.flatten.toArray ps=some (ps.foldl (λq x=>q.set x.1 x.2.cells.toList) qs).flatten.toArray
 | [],qs,_,_=>rfl
 |(i,v)::r,qs,f,h=>by
  have d:L[i]?=some v.cells.size:=h (i,v) (.head _);have j:(qs.map List.length)[i]?=some v.cells.size:=by rw[f];exact d
  rw[bi]at j;obtain⟨q,s,k⟩:=bN.1 j;obtain⟨l,t⟩:=aI.1 s
  have e:qs.flatten=(qs.take i).flatten++q++(qs.drop (i+1)).flatten:=by
   rw[ox qs i 1,gw l,t];simp
  have b:(qs.take i).flatten.length=kj L i:=by rw[mg,f]
  have m:kj L i+v.cells.size<=qs.flatten.length:=by rw[e,am,am,b,k];omega
  unfold Instr.fill;rw[g i _ d];simp only[ne_eq,not_true_eq_false,decide_false,Bool.false_or,decide_eq_true_eq];rw[aq (by have:v.cells.toList.length=v.cells.size:=r5;have d:qs.flatten.toArray.size=qs.flatten.length:=dH;omega)];have o:=GM v.cells.toList (qs.take i).flatten q (qs.drop (i+1)).flatten (by rw[k];simp);rw[<-e,b]at o
  have p:v.cells.zipIdx.foldl (λu (x:Value×Nat)=>u.setIfInBounds (kj L i+x.2) x.1) qs.flatten.toArray=((qs.take i).flatten++v.cells.toList++(qs.drop (i+1)).flatten).toArray:=by
   rw[<-o,<-Array.foldl_toList];simp
  have w:((qs.take i).flatten++v.cells.toList++(qs.drop (i+1)).flatten)=(qs.set i v.cells.toList).flatten:=by
   rw[List.set_eq_take_append_cons_drop,aJ l,r9,vq,bf]
  rw[w]at p;have y:=vA g r (qs.set i v.cells.toList) (by rw[List.map_set,f];exact Bw (by rw[d];simp)) (λx z=>h x (cj _ z));rw[List.foldl_cons,<-y];exact aA (λc=>Instr.fill a c r) p
def plB(P:Program)(t:TypeId)(L:List Nat):Bool:=match P.underlying t with
 |some (.struct fields)=>fields.toList.mapM (λf=>(P.info? f.type).map λi=>(f.offset,i.size))==some ((List.range L.length).map λi=>(kj L i,L.getD i 0))
 |some (.array _ e)=>match P.info? e with
  |some a=>(List.range L.length).all λi=>kj L i==i*a.size&&L.getD i 0==a.size
  |none=>false
 |_=>false
theorem Gf{t}{a:qu}(b:plB P t (a.map List.length)=true)(hz:(P.info? t).bind (·.zero)=some (.agg a.flatten.toArray))(ps:List (Nat×Value))(hv:∀x∈ps,(a.map List.length)[x.1]?=some x.2.cells.size):
 P.built t ps=some (ps.foldl (λq x=>q.set x.1 x.2.cells.toList) a).flatten.toArray:=by
 unfold Program.built;unfold plB at b;cases j:P.info? t with
 |none=>rw[j]at hz;cases hz
 |some l=>
  rw[j]at hz;have f:l.zero=some (.agg a.flatten.toArray):=hz;cases k:P.underlying t with
  |none=>rw[k]at b;cases b
  |some d=>
   rw[k]at b;cases d<;>try (cases b;done)
   case struct fields=>
    simp only[beq_iff_eq]at b;simp only[f,b];refine vA (λi n g=> ?_) ps a rfl hv;have c:=(aI.1 g).1;rw[eg,bi,List.getElem?_range c,Option.map_some,bV,g]
    rfl
   case array m e=>
    simp only at b;cases h:P.info? e with
    |none=>rw[h]at b;cases b
    |some o=>
     rw[h]at b;simp only[List.all_eq_true,Bool.and_eq_true,beq_iff_eq,List.mem_range]at b;simp only[f,h];refine vA (λi n g=> ?_) ps a rfl hv;have c:=(aI.1 g).1;have:=b i c;rw[bV,g]at this;rw[this.1,<-this.2];rfl
theorem T.un(n:Nat)(h:T n' P dr ops w M X Q f (l.setIfInBounds n true) a' s)(b:ops[n]?=some o:=by rfl)(c:fH P dr ops l n=true:=by decide+kernel)(d:Region.wanted o (yielded ops a.tmps)=false:=by rfl)
 (e:a.put o.dst undef=a':=by(go_simp;first|done|rfl)) (g:n+1=n':=by(simp only[Nat.reduceAdd];rfl)):T n P dr ops w M X Q (f+1) l a s:=by
 subst e;exact⟨Ng b c (.inr ⟨d,rfl⟩) h.o⟩
theorem T.sk(h:T n' P dr ops w M X Q f l a s)(b:Nat.blt n ops.size=true:=by rfl)(c:n+1=n':=by(simp only[Nat.reduceAdd];rfl)):T n P dr ops w M X Q f l a s:=⟨h.o⟩
theorem T.fin(h:TE w M Q .normal a s)(c:(ri dr ops l).isEmpty=true:=by decide+kernel):T n P dr ops w M X Q f l a s:=by
 have b:ri dr ops l= []:=by simpa using c
 have d:∀f,Af P ops w M dr X (λa s=> ∀W,Hp w M s W->Q .normal a W) f l a s:=λf=>by
  induction f with
  |zero=>exact⟨b,h.o⟩
  |succ f e=>exact rV f _ _ _ e
 exact⟨d f⟩
theorem T.one(n:Nat)(h:TO [n] P dr ops l w M X n (λa s=>T (n+1) P dr ops w M X Q f (l.setIfInBounds n true) a s) a s){k}:T k P dr ops w M X Q (f+1) l a s:=
 ⟨Jc h.b λc d=>by obtain rfl:=ar.1 d;exact sB (λ_ _=>⟨rfl,rfl⟩) (λ_ h=>h) (λ_ h=>h) (λ_ h=>h.o) (λo _ h=>h.o) (λo v b m _ _ h=>h.o) (λo W v u W' _ _ e g i j=>⟨u,e,g,i,j.o⟩) h.o⟩
theorem T.two(n m:Nat)(h1:TO [n,m] P dr ops l w M X n (λa s=>T 0 P dr ops w M X Q f (l.setIfInBounds n true) a s) a s)(p:TO [n,m] P dr ops l w M X m (λa s=>T 0 P dr ops w M X Q f (l.setIfInBounds m true) a s) a s){k}:T k P dr ops w M X Q (f+1) l a s:=
 ⟨Jc h1.b λc d=>by
  rcases dz.1 d with rfl|d
  .exact sB (λ_ _=>⟨rfl,rfl⟩) (λ_ h=>h) (λ_ h=>h) (λ_ h=>h.o) (λo _ h=>h.o) (λo v b q _ _ h=>h.o) (λo W v u W' _ _ e g i j=>⟨u,e,g,i,j.o⟩) h1.o
  .obtain rfl:=ar.1 d;exact sB (λ_ _=>⟨rfl,rfl⟩) (λ_ h=>h) (λ_ h=>h) (λ_ h=>h.o) (λo _ h=>h.o) (λo v b q _ _ h=>h.o) (λo W v u W' _ _ e g i j=>⟨u,e,g,i,j.o⟩) p.o⟩
theorem TO.of{cs}{K}(b:ops[n]?=some o)(c:Region.wanted o (yielded ops a.tmps)=true)(d:gu P o=false)
 (e:ip P dr ops l cs=true) (h:∀W,Hp w M s W->Tl P w M dr (xo X n) (J6 P ops) s W (λv s'=>K (a.put o.dst v) s') ((execOp a.eval o).run P W)):TO cs P dr ops l w M X n K a s:=by
 refine⟨e,?_⟩;unfold BY;simp only[b,c,d,if_true,Bool.false_eq_true,if_false];exact h
theorem sG(W:ay)(b a:Nat)(c:fg)(f:W.there b a v.cells.size)(g:(P.info? c).map (·.size)=some v.cells.size)(h1:v.cells.all (·.oneCell')=true):
 (Instr.storeAt c (.pointer (some ⟨b,a,none⟩)) v).run P W= .ok () (W.setCells b a v.cells.toList):=by
 have:=run_storeCells_cells (P:=P) b a v.cells.toList 0 W (λj d=>by simpa using(f j (ek d)).1) (λj d=>by simpa using(f j (ek d)).2)
  (λu h=>(mR.1 h1) u (ek h))
 cases e:P.info? c with
 |none=>simp[e]at g
 |some i=>
  have k:v.cells.size=i.size:=by simp[e]at g;omega
  simp only[Nat.add_zero]at this;simp[Instr.storeAt,Instr.sureAddr,storeVar,sizeOf,typeInfo,e,k,this]
theorem JW{p i}{ps}{q}(d:X.contains (p*1000+i)=true):er X p (ps.set i q)=er X p ps:=by
 unfold er;apply jW;intro j;simp only[List.getElem?_map,List.getElem?_zipIdx,List.getElem?_set]
 by_cases a:i=j
 .subst a;have b:p*1000+i∈X:=by simpa using d
  by_cases c:i<ps.length
  .simp[c,b]
  .simp[c]
 .simp[a]
theorem Cw.oE{p}{e}{qs}(b:s[p]?=some e)(c:dr=true->er X e.i qs=er X e.i e.ps):Cw dr X s (s.set p {e with ps:=qs}):=λd x f=>by
 obtain⟨q,a⟩:=List.mem_iff_getElem?.1 f
 by_cases h:p=q
 .subst h;rw[b]at a;injection a with a;subst a;exact .inr ⟨qs,ah (i:=p) (by rw[List.getElem?_set_self (aI.1 b).1]),c d⟩
 .exact .inr ⟨x.ps,ah (i:=q) (by rw[List.getElem?_set_ne h];exact a),rfl⟩
theorem TO.st{cs}(F:ip P dr ops l cs=true)(p:Nat){K}{ty'}{z u}{j g c k}{r}{L}{ps}{q}(h:K a (s.set p (bl j g true (kL r L) (ps.set (loc L c).1 q))))(G:ops[n]?=some o:=by rfl)(H:Region.wanted o (yielded ops a.tmps)=true:=by rfl)(B:o.op= .store ty' z u:=by rfl)(i:o.dst=none:=by rfl)
 (I:a.eval z= .pointer (some ⟨g,c,none⟩):=by rfl) (t:s[p]?=some (bl j g true (kL r L) ps):=by rfl) (hv:a.eval u=v:=by(go_simp;first|done|rfl)) (R:(loc L c).2=0:=by rfl) (C:L[(loc L c).1]?=some k:=by rfl) (hz:v.cells.size=k:=by first|rfl|(simp[Value.cells,ag, *];done))
 (J:(!dr||(xo X n).contains (j*1000+(loc L c).1))=true:=by decide+kernel) (N:(P.info? ty').map (·.size)=some k:=by decide+kernel) (h1:v.cells.all (·.oneCell')=true:=by first|exact Er rfl|exact iO _ _|exact Jp _ rfl|(simp[Value.cells, *];done)) (hq:v.cells.toList=q:=by first|exact P9 _ _|exact JJ rfl|exact P7 _):TO cs P dr ops l w M X n K a s:=by
 subst hq;refine TO.of G H (by unfold gu;rw[B]) F λW D=> ?_;have x:kL r L ps W.heap[g]?:=D.en _ (ah t);have y:ps[(loc L c).1]?.map List.length=some k:=by rw[<-bi,x.1];exact C
 obtain⟨q,hq,f⟩:=bN.1 y;have d:kj (ps.map List.length) (loc L c).1=c:=by rw[x.1];have:=uB L c;omega
 have e:Lay W g r ps:=x.2;have O:=e.part _ c q d hq;have A:W.there g c v.cells.size:=by have:=O.2;rwa[dH,f,<-hz]at this
 have E:q.length=v.cells.toList.length:=by rw[f,r5,hz]
 have m:=e.set _ c q v.cells.toList d hq E;unfold execOp;simp only[B,I,hv,Sem.run_bind,sG W g c ty' A (by rw [N,hz]) h1,Result.andThen_ok,Sem.run_pure];refine⟨_,Cw.oE t (λQ=>JW (by subst Q;simpa[bl]using J)),D.oE t rfl rfl (ps.set (loc L c).1 v.cells.toList) (ci.bZ (aG g _ c W)) ⟨?_,m⟩,(Fr.oE t rfl _ (ci.bZ (aG g _ c W))).b,?_⟩
 .show(ps.set (loc L c).1 v.cells.toList).map List.length=L;rw[List.map_set,<-E,f,show ps.map List.length=L from x.1];exact Bw C
 .rw[i];exact h
theorem T.st{p n}{ty'}{z u}{j g b k}{d}{L}{ps}{q}{s'}(h:T (n+1) P dr ops w M X Q f (l.setIfInBounds n true) a s')(e:ops[n]?=some o:=by rfl)(i:o.op= .store ty' z u:=by rfl)(m:ip P dr ops l [n]=true:=by decide+kernel)(r:Region.wanted o (yielded ops a.tmps)=true:=by rfl)(c:o.dst=none:=by rfl)
 (t:a.eval z= .pointer (some ⟨g,b,none⟩):=by rfl) (x:s[p]?=some (bl j g true (kL d L) ps):=by first|exact Ya|exact Nt|exact Tz|exact PI|exact TA|exact TZ|exact ZW|exact ZX|exact at8|exact at9) (hv:a.eval u=v:=by(go_simp;first|done|rfl)) (y:(loc L b).2=0:=by decide+kernel) (A:L[(loc L b).1]?=some k:=by rfl) (hz:v.cells.size=k:=by first|rfl|(simp[Value.cells,ag, *];done))
 (B:(!dr||(xo X n).contains (j*1000+(loc L b).1))=true:=by decide+kernel) (C:(P.info? ty').map (·.size)=some k:=by decide+kernel) (h1:v.cells.all (·.oneCell')=true:=by first|exact Er rfl|exact iO _ _|exact Jp _ rfl|(simp[Value.cells, *];done)) (hq:v.cells.toList=q:=by first|exact P9 _ _|exact JJ rfl|exact P7 _) (D:s.set p (bl j g true (kL d L) (ps.set (loc L b).1 q))=s':=by(simp only[List.set_cons_zero,List.set_cons_succ];rfl)):T n P dr ops w M X Q (f+1) l a s:=
 T.one n (TO.st m p (by rw[D];exact h) e r i c t x hv y A hz B C h1 hq)
theorem Yy{j i m}{ps qs}(b:qs.length=m)(l:i+m<=ps.length)(c:(List.range m).all (λk=>X.contains (j*1000+(i+k)))=true):er X j (ps.take i++qs++ps.drop (i+m))=er X j ps:=by
 unfold er;apply jW;intro k;simp only[List.getElem?_map,List.getElem?_zipIdx,Nat.zero_add]
 by_cases d:k<i
 .rw[bf,jb (by rw[aO];omega),js d]
 .by_cases n:k<i+m
  .have a:j*1000+k∈X:=by
    have:=fX.1 c (k -i) (by simp;omega);rw[show i+(k -i)=k by omega]at this;simpa using this
   have e:k<(ps.take i++qs++ps.drop (i+m)).length:=by simp;omega
   have f:k<ps.length:=af;obtain⟨x,g⟩:∃x,(ps.take i++qs++ps.drop (i+m))[k]?=some x:=⟨_,aQ e⟩;obtain⟨y,h⟩:∃y,ps[k]?=some y:=⟨_,aQ f⟩;rw[g,h];simp[a]
  .rw[qY (by rw[am,aO,b];omega),List.getElem?_drop,am,aO,b];congr 3;omega
theorem TO.new{cs}(e:ip P dr ops l cs=true){K}{ι:Type}{vf:ι->Nat->Value}{of:ι->Obj}{a':ι->Nat->Act}{ef:ι->Nat->En}(h:∀x b,K (a' x b) (s++ [ef x b]))(f:ops[n]?=some o)(g:Region.wanted o (yielded ops a.tmps)=true)(i:gu P o=true)
 (j:∀W,∃x W',wa P o a W (vf x W.heap.size) (of x) W') (he:∀x b,Cm n o b (vf x b) (of x)=ef x b) (k:∀x b (W':ay),W'.heap[b]?=some (of x)->(ef x b).p (ef x b).ps W') (m:∀x b,a.put o.dst (vf x b)=a' x b):TO cs P dr ops l w M X n K a s:=by
 refine⟨e,?_⟩;unfold BY;simp only[f,g,i,if_true];refine⟨λb v c=> ∃x,v=vf x b/\c=of x,λW=> ?_,λb v c ⟨x,q,r⟩ _=> ?_⟩
 .obtain⟨x,W',d⟩:=j W;exact⟨_,_,W',d,by unfold enK;rw[he];exact k x _ _ (by rw[d.heap];simp),x,rfl,rfl⟩
 .subst q r;rw[m,he];exact h x b
theorem wa.of{cs}{t}{W}(h:(execOp a.eval o).run P W= .ok (.value v) (W.alloc (.cells cs t))):wa P o a W v (.cells cs t) (W.alloc (.cells cs t)):=⟨h,rfl,(aw _ W).alloc (ak _) _⟩
theorem TO.aaU{c}(e:ip P dr ops l c=true){K}{vf:Nat->Value}{a':Nat->Act}{cs}{q}{t}{z}(h:∀b,K (a' b) (s++ [bl (100+n) b true (kL t [z]) [q]]))(f:ops[n]?=some o)(g:Region.wanted o (yielded ops a.tmps)=true)(i:gu P o=true)(d:(match o.op with| .convert .. =>true|_=>false)=false)
 (j:∀W,(execOp a.eval o).run P W= .ok (.value (vf W.heap.size)) (W.alloc (.cells cs t))) (hq:cs.toList=q) (hz:cs.size=z) (k:∀b,a.put o.dst (vf b)=a' b):TO c P dr ops l w M X n K a s:=by
 subst hq hz;refine TO.new e (ι:=Unit) (vf:=λ_=>vf) (of:=λ_=> .cells cs t) (a':=λ_=>a') (ef:=λ_ b=>bl (100+n) b true (kL t [cs.size]) [cs.toList]) (λ_=>h) f g i (λW=>⟨(),_,wa.of (j W)⟩) (λ_ b=> ?_) (λ_ b W' m=>⟨by simp[bl],by rw[m];simp[bl]⟩) (λ_=>k);unfold Cm;simp only[]
 split
 .rename_i p _;rw[p]at d;cases d
 .rfl
theorem zA.call{b}{args}(c:∀t,leq dr X s t-> ∀W,Hp w M t W->Calls P b args W λr W'=>r= .returned v/\Below W.heap.size W W')(d:∀W,(execOp a.eval o).run P W= .ok (.enter b args) W:=by(intro W;go_simp;first|done|with_reducible rfl)):zA P dr w M X s o a v:=λt e W f=>
 cZ (d W) (c t e W f)
theorem TO.call{cs}(k:ip P dr ops l cs=true){K}{e}{args}{j g}{ty}{L}{ps qs}{a'}(p:Nat)(c:s[p]?=some (bl j g true (kL ty L) ps))(m:∀W,Hp w M s W->Calls P e args W λr W'=>r= .returned v/\kL ty L qs W'.heap[g]?/\ci [g] W W')(h:K a' (s.set p (bl j g true (kL ty L) qs)))
 (q:ops[n]?=some o:=by rfl) (t:Region.wanted o (yielded ops a.tmps)=true:=by rfl) (d:gu P o=false:=by rfl) (u:∀W,(execOp a.eval o).run P W= .ok (.enter e args) W:=by(intro W;go_simp;first|done|with_reducible rfl)) (x:dr=true->er (xo X n) j qs=er (xo X n) j ps:=by first|(intro h;cases h;done)|(intro _;kernel_rfl)) (y:a.put o.dst v=a':=by(go_simp;first|done|rfl)):TO cs P dr ops l w M X n K a s:=by
 refine TO.of q t d k λW f=> ?_;rw[u W];exact(m W f).mono λr W' ⟨z,A,i⟩=>⟨v,_,z,Cw.oE c x,f.oE c rfl rfl qs i A,(Fr.oE c rfl _ i).b,by show K (a.put o.dst _) _;rw[y];exact h⟩
theorem Ea{p}{j g}{m}{K}{ps qs}(a:s[p]?=some (bl j g m K ps))(he:ps=qs):s.set p (bl j g m K qs)=s:=by subst he;exact Bw a
theorem TC.rgu{r:List Oper}(h:T 0 P false r.toArray w M [] Q r.length (Array.replicate r.length false) a s)(hm:P.follows .mixedOrders=true:=by kernel_rfl):TC P w M (.region id r.toArray false) Q a s:=⟨λW b=>zp hm b h.o⟩
theorem TC.seq(h:TC P w M x (Exit.then (y.wp P Q) Q) a s):TC P w M (.seq x y) Q a s:=⟨λW b=>wp_seq (h.o W b)⟩
theorem TC.et(h:TC P w M x (Exit.inBlock id Q) a s):TC P w M (.block id x) Q a s:=⟨λW b=>wp_block (h.o W b)⟩
theorem TC.ret(h:TE w M Q .ret a s):TC P w M .ret Q a s:=⟨λW b=>wp_ret (h.o W b)⟩
theorem TC.skip(h:TE w M Q .normal a s):TC P w M .skip Q a s:=⟨λW b=>wp_skip (h.o W b)⟩
theorem TC.exit(h:TE w M Q (.exit id) a s):TC P w M (.exit id) Q a s:=⟨λW b=>wp_exit (h.o W b)⟩
theorem TE.Ph(h:TC P w M y Q a s):TE w M (Exit.then (y.wp P Q) Q) .normal a s:=⟨h.o⟩
theorem TE.thr{N}(h:TE w M Q .ret a s):TE w M (Exit.then N Q) .ret a s:=⟨h.o⟩
theorem TE.the{N}(h:TE w M Q (.exit id) a s):TE w M (Exit.then N Q) (.exit id) a s:=⟨h.o⟩
theorem TE.bn(h:TE w M Q .normal a s):TE w M (Exit.inBlock id Q) .normal a s:=⟨h.o⟩
theorem TE.br(h:TE w M Q .ret a s):TE w M (Exit.inBlock id Q) .ret a s:=⟨h.o⟩
theorem TE.be(h:TE w M Q .normal a s):TE w M (Exit.inBlock id Q) (.exit id) a s:=⟨λW b=>by
 show if id=id then _ else _
 rw[aJ rfl];exact h.o W b⟩
theorem TE.bo(h:TE w M Q (.exit id') a s)(b:Nat.beq id' id=false:=by rfl):TE w M (Exit.inBlock id Q) (.exit id') a s:=⟨λW c=>by
 have:id'≠id:=λe=>by subst e;rw[Nat.beq_refl]at b;cases b
 show if id'=id then _ else _
 rw[aq this];exact h.o W c⟩
theorem TC.ct{c}(h:TC P w M x Q a s)(b:a.eval c= .bool true:=by rfl):TC P w M (.cond c x y) Q a s:=⟨λW d=>wp_cond_true b (h.o W d)⟩
theorem TC.cf{c}(h:TC P w M y Q a s)(b:a.eval c= .bool false:=by rfl):TC P w M (.cond c x y) Q a s:=⟨λW d=>wp_cond_false b (h.o W d)⟩
theorem TE.rt{fn}{R}{e}(h:∀W,Hp w M s W->R (.returned v) W)(he:e= .ret\/e= .normal:=by first|exact .inl rfl|exact .inr rfl)(b:a.defers= []:=by rfl)
 (c:∀W,(results fn a.tmps).run P W= .ok v W:=by first|(intro W;exact results_tmp rfl _ _ _)|(intro W;exact results_none rfl _ _ _)|(intro W;exact results_tmp2 rfl _ _ _)):TE w M (bodyPost P fn R) e a s:=⟨λW d=>by
 rcases he with rfl|rfl
 .exact cI (c W) b (h W d)
 .exact bodyPost_end (c W) b (h W d)⟩
theorem Hp.nil(M:iT)(w:ay):Hp w M [] w:=⟨ci.refl _ _,(λ_ h=>by cases h),(λ_ h=>by cases h),(λ_ h=>by cases h),.nil⟩
theorem Hp.cons{e}(h:Hp w M s w)(b:e.p e.ps w)(a:∀k,e.B k->k<w.heap.size)(hm:e.m=true-> ∀k,e.B k->k∈M)(c:∀x∈s,∀k,e.B k-> ¬x.B k):Hp w M (e::s) w:=
 ⟨h.base,List.forall_mem_cons.2 ⟨b,h.en⟩,List.forall_mem_cons.2 ⟨a,h.ins⟩,List.forall_mem_cons.2 ⟨λk i a=> .inl (hm k i a),h.own⟩,.cons c h.nd⟩
theorem go{G a:Prop}(k:a)(h:a->G:=by
 (
  intro k
  repeat (first
   |refine T.q _ ?_|refine T.lc _ ?_|refine T.lr _ ?_|refine T.st ?_|refine T.sa _ ?_|refine T.un _ ?_|refine T.fin ?_|refine T.sk ?_
   |refine TC.seq ?_|refine TE.Ph ?_|refine TC.rgu ?_|refine TC.et ?_|refine TC.ret ?_|refine TC.skip ?_|refine TC.exit ?_
   |refine TE.thr ?_|refine TE.the ?_|refine TE.bn ?_|refine TE.br ?_|refine TE.be ?_|refine TE.bo ?_|refine TC.ct ?_|refine TC.cf ?_)
  exact k)):G:=h k
theorem T.qm{G:Prop}(n p m:Nat)(v:cH){ty'}{z}{j g b}{mu}{ty}{L}{ps}(h:G)(c:ops[n]?=some o:=by rfl)(d:fH P dr ops l n=true:=by decide+kernel)(e:Region.wanted o (yielded ops a.tmps)=true:=by rfl)
 (i:o.op= .load ty' z:=by rfl) (q:a.eval z= .pointer (some ⟨g,b,none⟩):=by rfl) (r:s[p]?=some (bl j g mu (kL ty L) ps):=by rfl) (t:(dr&&(List.range m).any λk=>(xn X ops l n).contains (j*1000+((loc L b).1+k)))=false:=by decide+kernel) (u:(loc L b).2=0:=by decide+kernel) (x:uS P ty'=true:=by decide+kernel) (hz:(P.info? ty').map (·.size)=some ((L.drop (loc L b).1).take m).sum:=by decide+kernel)
 (hv: .agg (((ps.drop (loc L b).1).take m).flatten.toArray)=v:=by kernel_rfl) (y:a.put o.dst v=a':=by(go_simp;first|done|rfl)) (A:n+1=n':=by(simp only[Nat.reduceAdd];rfl)) {k} (hgo:G->T n' P dr ops w M X Q f (l.setIfInBounds n true) a' s:=by(intro k;refine go ?_;exact k)):T k P dr ops w M X Q (f+1) l a s:=⟨(T.qf n (zA.ldm p m hv i q r t u x hz) (hgo h) c d e y A).o⟩
theorem TO.XP{cl}{K}{G:Prop}(p m:Nat){qs}{ty'}{z u}{j g c}{x}{L}{ps}{s'}(h:G)(H:ops[n]?=some o:=by rfl)(C:o.op= .store ty' z u:=by rfl)(I:ip P dr ops l cl=true:=by decide+kernel)(J:Region.wanted o (yielded ops a.tmps)=true:=by rfl)(q:o.dst=none:=by rfl)
 (N:a.eval z= .pointer (some ⟨g,c,none⟩):=by rfl) (y:s[p]?=some (bl j g true (kL x L) ps):=by rfl) (hv:a.eval u=v:=by rfl) (V:(loc L c).2=0:=by decide+kernel) (hm:(loc L c).1+m<=L.length:=by decide+kernel) (hq:v.cells.toList=qs.flatten:=by first|exact abP _ _ _|simp[Value.cells,ai]) (hl:qs.map List.length=(L.drop (loc L c).1).take m:=by(simp only[List.map_cons,List.map_nil,List.length_map, *];first|done|decide+kernel)) (h1:v.cells.all (·.oneCell')=true:=by first|exact iO _ _|exact Er rfl|exact Jp _ rfl)
 (O:(!dr||(List.range m).all λk=>(xo X n).contains (j*1000+((loc L c).1+k)))=true:=by decide+kernel) (Q:(P.info? ty').map (·.size)=some ((L.drop (loc L c).1).take m).sum:=by decide+kernel) (R:s.set p (bl j g true (kL x L) (ps.take (loc L c).1++qs++ps.drop ((loc L c).1+m)))=s':=by(simp only[List.set_cons_zero,List.set_cons_succ];rfl)) (hgo:G->K a s':=by(intro k;refine go ?_;exact k)):TO cl P dr ops l w M X n K a s:=by
 subst R;refine TO.of H J (by unfold gu;rw[C]) I λW D=> ?_;have E:kL x L ps W.heap[g]?:=D.en _ (ah y);have d:Lay W g x ps:=E.2;have r:ps.map List.length=L:=E.1
 have t:qs.length=m:=by
  have:=aA List.length hl;rw[aM,aO,bK]at this;omega
 have e:kj (ps.map List.length) (loc L c).1=c:=by rw[r];have:=uB L c;omega
 have i:((ps.drop (loc L c).1).take m).map List.length=qs.map List.length:=by rw[List.map_take,List.map_drop,r,hl]
 have S:=d.run (loc L c).1 m c _ e rfl;have F:v.cells.size=((L.drop (loc L c).1).take m).sum:=by rw[<-r5,hq,jz,hl]
 have A:W.there g c v.cells.size:=by
  have:=S.2;rw[dH,jz,i,hl]at this;rwa[F]
 have f:=d.Lo (loc L c).1 m c qs e t i;rw[<-hq]at f;have B:(loc L c).1+m<=ps.length:=by rw[<-r,aM]at hm;rw[<-r];exact hm
 unfold execOp;simp only[C,N,hv,Sem.run_bind,sG W g c ty' A (by rw [Q,F]) h1,Result.andThen_ok,Sem.run_pure];refine⟨_,Cw.oE y (λU=>Yy t B (by subst U;simpa[bl]using O)),D.oE y rfl rfl (ps.take (loc L c).1++qs++ps.drop ((loc L c).1+m)) (ci.bZ (aG g _ c W)) ⟨?_,f⟩,(Fr.oE y rfl _ (ci.bZ (aG g _ c W))).b,?_⟩
 .show(ps.take (loc L c).1++qs++ps.drop ((loc L c).1+m)).map List.length=L;rw[cN,cN,<-i,<-cN,<-cN,bf,<-List.drop_drop,cR,cR,r]
 .rw[q];exact hgo h
theorem TO.J{d}{K}{G:Nat->Prop}{a':Nat->Act}{cs}{q}{t}{z}{s':Nat->List En}(h:∀b,G b)(e:ip P dr ops l d=true:=by decide+kernel)(f:ops[n]?=some o:=by rfl)(g:Region.wanted o (yielded ops a.tmps)=true:=by rfl)(c:gu P o=true:=by rfl)(i:(match o.op with| .convert .. =>true|_=>false)=false:=by rfl)
 (j:∀W,(execOp a.eval o).run P W= .ok (.value (.pointer (some ⟨W.heap.size,0,none⟩))) (W.alloc (.cells cs t)):=by(intro W;go_simp;first|done|with_reducible rfl)) (hq:cs.toList=q:=by first|exact aba _ _|rfl) (hz:cs.size=z:=by first|(simp only[ag,List.size_toArray,List.length_cons,List.length_nil,Nat.reduceAdd, *];done)|(simp only[ag,List.size_toArray,List.length_cons,List.length_nil,Nat.reduceAdd, *];rfl)|rfl) (m:∀b,a.put o.dst (.pointer (some ⟨b,0,none⟩))=a' b:=by(intro b;go_simp;first|done|rfl)) (p:∀b,s++ [bl (100+n) b true (kL t [z]) [q]]=s' b:=by(intro b;simp only[List.cons_append,List.nil_append,Nat.reduceAdd];rfl)) (hgo:∀b,G b->K (a' b) (s' b):=by(intro b k;refine go ?_;exact k)):TO d P dr ops l w M X n K a s:=
 TO.aaU e (λb=>by rw[p];exact hgo b (h b)) f g c i j hq hz m
theorem TO.news{d}{K}{G:Nat->Prop}{a':Nat->Act}{cs}{q}{t}{i j z}{s':Nat->List En}(h:∀b,G b)(e:ip P dr ops l d=true:=by decide+kernel)(f:ops[n]?=some o:=by rfl)(g:Region.wanted o (yielded ops a.tmps)=true:=by rfl)(c:gu P o=true:=by rfl)(m:(match o.op with| .convert .. =>true|_=>false)=false:=by rfl)
 (p:∀W,(execOp a.eval o).run P W= .ok (.value (.slice (some ⟨W.heap.size,0,none⟩) i j)) (W.alloc (.cells cs t)):=by(intro W;go_simp;first|done|with_reducible rfl|(refine⟨⟨?_,?_⟩,?_⟩<;>with_reducible rfl))) (hq:cs.toList=q:=by first|exact aba _ _|rfl) (hz:cs.size=z:=by first|(simp only[ag,List.size_toArray,List.length_cons,List.length_nil,Nat.reduceAdd, *];done)|(simp only[ag,List.size_toArray,List.length_cons,List.length_nil,Nat.reduceAdd, *];rfl)|rfl) (r:∀b,a.put o.dst (.slice (some ⟨b,0,none⟩) i j)=a' b:=by(intro b;go_simp;first|done|rfl)) (u:∀b,s++ [bl (100+n) b true (kL t [z]) [q]]=s' b:=by(intro b;simp only[List.cons_append,List.nil_append,Nat.reduceAdd];rfl)) (hgo:∀b,G b->K (a' b) (s' b):=by(intro b k;refine go ?_;exact k)):TO d P dr ops l w M X n K a s:=
 TO.aaU e (λb=>by rw[u];exact hgo b (h b)) f g c m p hq hz r
theorem TO.RF{cl}{K}{G:Nat->Nat->Prop}{S}{z}{src d e}{u}{a':Nat->Nat->Act}{s':Nat->List En}(h:∀b c,G b c)(p:ops[n]?=some o:=by rfl)(j:o.op= .convert src d u:=by rfl)(q:ip P dr ops l cl=true:=by decide+kernel)(r:Region.wanted o (yielded ops a.tmps)=true:=by rfl)(g:gu P o=true:=by decide+kernel)
 (t:a.eval u= .string S:=by rfl) (h1:P.underlying src=some .string:=by kernel_rfl) (v:P.underlying d=some (.slice e):=by rfl) (x:P.underlying e=some (.int .u8):=by kernel_rfl) (hz:S.size=z:=by first|assumption|(simp[*];done)|rfl)
 (y:∀b c,a.put o.dst (.slice (some ⟨b,0,none⟩) z c)=a' b c:=by(intro b c;go_simp;first|done|rfl)) (m:∀b,s++ [bl (100+n) b true (kT e [z]) [(bI S).map (Value.int .u8)]]=s' b:=by(intro b;simp only[List.cons_append,List.nil_append,Nat.reduceAdd];rfl)) (hgo:∀b c,G b c->K (a' b c) (s' b):=by(intro b c k;refine go ?_;exact k)):TO cl P dr ops l w M X n K a s:=by
 have f:(S.data.map λb=>Value.int .u8 b.toNat).toList.length=z:=by simp;exact hz
 have i:(bI S).map (Value.int .u8)=(S.data.map λb=>Value.int .u8 b.toNat).toList:=by unfold bI;simp
 rw[i]at m;refine TO.new q (ι:=Nat) (vf:=λc b=> .slice (some ⟨b,0,none⟩) z c) (of:=λc=> .cells (bytesRow S c) e ((bytesRow S c).size,(bytesRow S c).size+1)) (a':=λc b=>a' b c) (ef:=λc b=>bl (100+n) b true (kT e [z]) [(S.data.map λb=>Value.int .u8 b.toNat).toList]) (λc b=>by rw[m];exact hgo b c (h b c)) p r g (λW=>⟨grownCap W S.size 0 e,W.drew.alloc (.cells (bytesRow S (grownCap W S.size 0 e)) e ((bytesRow S (grownCap W S.size 0 e)).size,(bytesRow S (grownCap W S.size 0 e)).size+1)),?_,rfl,?_⟩) (λc b=> ?_) (λc b W' A=>⟨?_,(List.replicate (c -S.size) (.int .u8 0)),((bytesRow S c).size,(bytesRow S c).size+1),?_,.inr ?_⟩) (λc b=>y b c)
 .have:=gD (P:=P) W src d e S h1 v x;unfold execOp;simp only[j,t,Sem.run_bind,this,Result.andThen_ok,Sem.run_pure,hz]
 .exact(bA (aw _ W) 1).alloc (ak _) _
 .unfold Cm;simp only[j];congr 2;rw[bytesRow,Array.toList_append,jD (by rw[f];exact ak _),<-f,List.take_length]
 .simp only[bl,List.map_cons,List.map_nil,f]
 .rw[A];simp[bytesRow,bl]
 .simp only[bytesRow,Array.size_append,List.sum_cons,List.sum_nil,Nat.add_zero];rw[<-r5,f];exact Nat.le_add_right _ _
theorem TO.qk{cl}{K}{G:Prop}{e}{args}(g:∀W,Hp w M s W->Calls P e args W λr W'=>r= .returned v/\Below W.heap.size W W')(h:G)(i:ops[n]?=some o:=by rfl)(j:ip P dr ops l cl=true:=by decide+kernel)(m:Region.wanted o (yielded ops a.tmps)=true:=by rfl)(c:gu P o=false:=by rfl)
 (p:∀W,(execOp a.eval o).run P W= .ok (.enter e args) W:=by(intro W;go_simp;first|done|rfl)) (q:a.put o.dst v=a':=by(go_simp;first|done|rfl)) (hgo:G->K a' s:=by(intro k;refine go ?_;exact k)):TO cl P dr ops l w M X n K a s:=by
 refine TO.of i m c j λW d=> ?_;rw[p W];refine(g W d).mono λr W' ⟨t,f⟩=>⟨_,s,t,λ_=>uO.refl _ s,d.iC f,(Fr.iC d f).b,?_⟩;show K (a.put o.dst v) _;rw[q];exact hgo h
theorem TO.cf{cl}{K}{ι:Type}{G:ι->Nat->Nat->Prop}{vf:ι->Value}{p:ι->Nat->Nat->World->Prop}{i}{args}{j:ι->Act}{m:ι->Nat->Nat->List En}(hl:∀x d c W W',p x d c W->(∀k,d<=k/\k<c->W'.heap[k]?=W.heap[k]?)->W.heap.size<=W'.heap.size->p x d c W')
 (t:∀W,Hp w M s W->Calls P i args W λr W'=> ∃x,r= .returned (vf x)/\p x W.heap.size W'.heap.size W'/\Below W.heap.size W W') (h:∀x d c,G x d c) (c:ops[n]?=some o:=by rfl) (u:ip P dr ops l cl=true:=by decide+kernel) (v:Region.wanted o (yielded ops a.tmps)=true:=by rfl) (e:gu P o=false:=by rfl)
 (y:∀W,(execOp a.eval o).run P W= .ok (.enter i args) W:=by(intro W;go_simp;first|done|rfl)) (z:∀x,a.put o.dst (vf x)=j x:=by(intro x;go_simp;first|done|rfl)) (A:∀x d c,s++ [fa (λk=>d<=k/\k<c) (p x d c) (λW W'=>hl x d c W W')]=m x d c:=by(intro x d c;simp only[List.cons_append,List.nil_append];rfl))
 (hgo:∀x d c,G x d c->K (j x) (m x d c):=by(intro x d c k;refine go ?_;exact k)):TO cl P dr ops l w M X n K a s:=by
 refine TO.of c v e u λW f=> ?_;rw[y W];refine(t W f).mono λr W' ⟨x,B,C,q⟩=>⟨_,s++ [fa (λk=>W.heap.size<=k/\k<W'.heap.size) (p x W.heap.size W'.heap.size) (λV D=>hl x _ _ V D)],B,λ_=>uO.push _,f.push q (λk g=>g) C,(Fr.push f q (λk g=>g)).b,?_⟩;show K (a.put o.dst (vf x)) _;rw[z,A];exact hgo x _ _ (h x _ _)
theorem zA.ldt(p:Nat){b}{z}{j g k}{m}{ty}{q}(A:o.op= .load b z)(B:a.eval z= .pointer (some ⟨g,0,none⟩))(C:s[p]?=some (bl j g m (kT ty [k]) [q]))
 (D:(dr&&X.contains (j*1000))=false) (f:uS P b=true) (E:(P.info? b).map (·.size)=some k) (hq: .agg q.toArray=v):zA P dr w M X s o a v:=λt F W G=>by
 obtain⟨n,⟨r,y,L,H,_⟩,I⟩:=G.Xx F C;have h:=I 0 (ek D)
 have e:n= [q]:=by
  match n,r,h with
  | [x],_,h=>simp at h;rw[h]
 subst e;have J:q.length=k:=by simpa using r
 have K:W.rangeAt g 0 q:=λi u c=>by
  rw[aW];have l:=(aI.1 c).1;unfold World.cell?;rw[H];simp only[Option.isSome_none,Bool.false_eq_true,if_false,List.flatten_cons,List.flatten_nil,List.append_nil];rw[eg,jb l,c]
 unfold uS at f;cases c:P.underlying b with
 |none=>simp[c]at f
 |some d=>
  rw[c]at f;refine aD ?_;unfold execOp;simp only[A,B,Sem.run_bind,run_loadAt_mid W g 0 b q d K c f (by rw [E,J]),Result.andThen_ok,Sem.run_pure,hq]
theorem T.lt{G:Prop}(n:Nat){p:Nat}{ty'}{z}{j g k}{m}{ty}{q}(h:G)(b:ops[n]?=some o:=by rfl)(c:o.op= .load ty' z:=by rfl)(d:fH P dr ops l n=true:=by decide+kernel)(e:Region.wanted o (yielded ops a.tmps)=true:=by rfl)(r:uS P ty'=true:=by decide+kernel)
 (t:a.eval z= .pointer (some ⟨g,0,none⟩):=by rfl) (u:s[p]?=some (bl j g m (kT ty [k]) [q]):=by first|exact Ya|exact Nt|exact Tz|exact PI|exact TA|exact TZ|exact ZW|exact ZX|exact at8|exact at9) (x:(dr&&(xn X ops l n).contains (j*1000))=false:=by decide+kernel) (hz:(P.info? ty').map (·.size)=some k:=by decide+kernel) (hq: .agg q.toArray=v:=by first|exact Tg _ _|exact Tf _|exact rfl)
 (y:a.put o.dst v=a':=by(go_simp;first|done|rfl)) (A:n+1=n':=by(simp only[Nat.reduceAdd];rfl)) {i} (hgo:G->T n' P dr ops w M X Q f (l.setIfInBounds n true) a' s:=by(intro k;refine go ?_;exact k)):T i P dr ops w M X Q (f+1) l a s:=⟨(T.qf n (zA.ldt p c t u x r hz hq) (hgo h) b d e y A).o⟩
theorem T.bd{G:Prop}(n:Nat)(b:qu){t}{xs}{vs}{qs}(h:G)(g:ops[n]?=some o:=by rfl)(c:o.op= .build t xs:=by rfl)(i:fH P dr ops l n=true:=by decide+kernel)(j:Region.wanted o (yielded ops a.tmps)=true:=by rfl)
 (m:(xs.map λx=>(x.1,a.eval x.2)).toList=vs:=by(go_simp;first|done|rfl)) (p:plB P t (b.map List.length)=true:=by kernel_rfl) (hz:(P.info? t).bind (·.zero)=some (.agg b.flatten.toArray):=by kernel_rfl) (r:∀x∈vs,(b.map List.length)[x.1]?=some x.2.cells.size:=by(simp[Value.cells,ag, *];done))
 (hq:vs.foldl (λq x=>q.set x.1 x.2.cells.toList) b=qs:=by rfl) (hv: .agg qs.flatten.toArray=v:=by rfl) (u:a.put o.dst v=a':=by(go_simp;first|done|rfl)) (y:n+1=n':=by(simp only[Nat.reduceAdd];rfl)) {k} (hgo:G->T n' P dr ops w M X Q f (l.setIfInBounds n true) a' s:=by(intro k;refine go ?_;exact k)):T k P dr ops w M X Q (f+1) l a s:=by
 refine⟨(T.qf n (zA.plain (by unfold Se;rw[c]) λW=> ?_) (hgo h) g i j u y).o⟩;have e:(xs.map λ(x:Nat×Operand)=>(x.1,a.eval x.2)).toList=vs:=m;have d:=Gf p hz vs r;rw[hq,<-e]at d;unfold execOp;simp only[c];have:=run_build (P:=P) W t (xs.map λ(x:Nat×Operand)=>(x.1,a.eval x.2)) _ d;simp only[Sem.run_bind,this,Result.andThen_ok,Sem.run_pure,hv]
theorem T.qc{G:Prop}(n:Nat){b}{args}(c:∀t,leq dr (xn X ops l n) s t-> ∀W,Hp w M t W->Calls P b args W λr W'=>r= .returned v/\Below W.heap.size W W')(h:G)(d:ops[n]?=some o:=by rfl)(e:fH P dr ops l n=true:=by decide+kernel)(g:Region.wanted o (yielded ops a.tmps)=true:=by rfl)
 (i:∀W,(execOp a.eval o).run P W= .ok (.enter b args) W:=by(intro W;go_simp;first|done|rfl)) (j:a.put o.dst v=a':=by(go_simp;first|done|rfl)) (m:n+1=n':=by(simp only[Nat.reduceAdd];rfl)) {k} (hgo:G->T n' P dr ops w M X Q f (l.setIfInBounds n true) a' s:=by(intro k;refine go ?_;exact k)):T k P dr ops w M X Q (f+1) l a s:=⟨(T.qf n (zA.call c i) (hgo h) d e g j m).o⟩
theorem T.put{G:Prop}(p:Nat){j g}{m}{K}{ps}(qs:qu){s'}(h:G)(b:s[p]?=some (bl j g m K ps):=by rfl)(he:ps=qs:=by kernel_rfl)(c:s.set p (bl j g m K qs)=s':=by(simp only[List.set_cons_zero,List.set_cons_succ];rfl))(hgo:G->T n P dr ops w M X Q f l a s':=by(intro k;refine go ?_;exact k)):T n P dr ops w M X Q f l a s:=by
 have h:=hgo h;rwa[<-c,Ea b he]at h
theorem TC.put{G:Prop}(p:Nat){j g}{m}{K}{ps}(qs:qu){s'}(h:G)(b:s[p]?=some (bl j g m K ps):=by rfl)(he:ps=qs:=by kernel_rfl)(c:s.set p (bl j g m K qs)=s':=by(simp only[List.set_cons_zero,List.set_cons_succ];rfl))(hgo:G->TC P w M x Q a s':=by(intro k;refine go ?_;exact k)):TC P w M x Q a s:=by
 have h:=hgo h;rwa[<-c,Ea b he]at h
theorem TC.rg{G:Prop}(X:iT){r:List Oper}(h:G)(hm:P.follows .mixedOrders=true:=by kernel_rfl)(hgo:G->T 0 P dr r.toArray w M X Q r.length (Array.replicate r.length false) a s:=by(intro k;refine go ?_;exact k)):TC P w M (.region id r.toArray dr) Q a s:=⟨λW b=>zp hm b (hgo h).o⟩
theorem TE.rc{fn}{R}{e}{u:Tmp}{b}{p j g:Nat}{m}{t}{L}{ps}(h:∀W,Hp w M s W->R (.returned (.agg ps.flatten.toArray)) W)(he:e= .ret\/e= .normal:=by first|exact .inl rfl|exact .inr rfl)(k:a.defers= []:=by rfl)(hf:fn.results= #[.cell u b]:=by rfl)(n:a.tmps.getD u undef= .pointer (some ⟨g,0,none⟩):=by rfl)
 (o:s[p]?=some (bl j g m (kL t L) ps):=by first|exact Ya|exact Nt|exact Tz|exact PI|exact TA|exact TZ|exact ZW|exact ZX|exact at8|exact at9) (q:uS P b=true:=by decide+kernel) (r:(P.info? b).map (·.size)=some L.sum:=by decide+kernel):TE w M (bodyPost P fn R) e a s:=⟨λW f=>by
 have l:kL t L ps W.heap[g]?:=f.en _ (ah o);have d:Lay W g t ps:=l.2;have v:At W g 0 ps.flatten.toArray:=At.j d
 have c:(results fn a.tmps).run P W= .ok (.agg ps.flatten.toArray) W:=by
  have x:(loadVar b ⟨g,0,none⟩).run P W= .ok (.agg ps.flatten.toArray) W:=by
   have:=lK (P:=P) b v q (by rw[r,dH,jz,l.1]);simpa[Instr.loadAt,Instr.sureAddr]using this
  have i:a.tmps[u]?.getD undef= .pointer (some ⟨g,0,none⟩):=by rw[<-Array.getD_eq_getD_getElem?];exact n
  simp[results,hf,i,asAddr,x]
 rcases he with rfl|rfl
 .exact cI c k (h W f)
 .exact bodyPost_end c k (h W f)⟩
theorem TC.enter{G:Prop}{a k:Nat}{fn}{args t}{R}{c}(hf:P.funcs[a]?=some fn)(b:fn.ntmps=k)(s:List En)(M:iT)(d:Hp w M s w)(h:G)(e:fn.body=some c:=by rfl)
 (f:args++Array.replicate (k -args.size) undef=t:=by(simp only[List.size_toArray,List.length_cons,List.length_nil,Nat.reduceAdd,Nat.reduceSub,Array.replicate_succ,Array.replicate_zero,List.push_toArray,List.append_toArray,List.nil_append,List.cons_append];rfl)) (hgo:G->TC P w M c (bodyPost P fn R) ⟨t,[]⟩ s:=by(intro k;refine go ?_;exact k)):Calls P a args w R:=
 calls_of_wp hf e (by rw[b,f];exact(hgo h).o w d)
end
@[go_sem] theorem xG {n} (h1: -9223372036854775808<=n) (a:n<9223372036854775808):IntKind.i64.wrap n=n:=by simp[IntKind.wrap,IntKind.bits,IntKind.signed];omega
@[go_sem] theorem abC {n} (h1:0<=n) (a:n<18446744073709551616):IntKind.u64.wrap n=n:=by simp[IntKind.wrap,IntKind.bits,IntKind.signed];omega
@[go_sem] theorem abB {n} (h1:0<=n) (a:n<4294967296):IntKind.u32.wrap n=n:=by simp[IntKind.wrap,IntKind.bits,IntKind.signed];omega
@[go_sem] theorem acq {n} (h1:0<=n) (a:n<256):IntKind.u8.wrap n=n:=by simp[IntKind.wrap,IntKind.bits,IntKind.signed];omega
section
variable {P:Program}{dr:Bool}{ops:Array Oper}{w W:World}{M X:List Nat}{Q:Exit->Act->World->Prop}{f n n' i j g:Nat}{l:Array Bool}{a a':Act}{v:Value}{m:Bool}{s s' t:List En}{c:Code}{o:Oper}
theorem Hp.swap(h:Hp w M s W){p}{e e'}(f:s[p]?=some e)(d:e'.B=e.B)(hm:e'.m=e.m)(j:e'.p e'.ps W):Hp w M (s.set p e') W:=by
 have g:e∈s:=ah f;refine⟨h.base,λx c=> ?_,λx c=> ?_,λx c=> ?_,?_⟩
 .rcases jc c with c|rfl
  .exact h.en x c
  .exact j
 .rcases jc c with c|rfl
  .exact h.ins x c
  .rw[d];exact h.ins e g
 .rcases jc c with c|rfl
  .exact h.own x c
  .rw[d,hm];exact h.own e g
 .have l:(s.set p e').map En.B=s.map En.B:=by
   rw[List.map_set,d]
   exact jW λk=>by
    rw[List.getElem?_set]
    split
    .rename_i n;subst n;split
     .rw[bi,f];rfl
     .rename_i o;rw[eI af]
    .rfl
  have i:(s.map En.B).Pairwise λ(a b:Nat->Prop)=> ∀k,a k-> ¬b k:=List.pairwise_map.2 h.nd;rw[<-l]at i;exact List.pairwise_map.1 i
theorem TC.split{G:Prop}(p:Nat){t}{L}{ps}(b:iT)(qs:qu)(h:G)(d:s[p]?=some (bl j g m (kL t L) ps):=by rfl)(he:qs.flatten=ps.flatten:=by rfl)(hl:qs.map List.length=b:=by rfl)(f:s.set p (bl j g m (kL t b) qs)=s':=by(simp only[List.set_cons_zero,List.set_cons_succ];rfl))(hgo:G->TC P w M c Q a s':=by(intro k;refine go ?_;exact k)):TC P w M c Q a s:=
 ⟨λW e=>(hgo h).o W (f▸e.swap d rfl rfl ⟨hl,(show _=some (Obj.cells qs.flatten.toArray t (0,0))from by rw[he];exact(e.en _ (ah d)).2)⟩)⟩
theorem T.lw{G:Prop}(n:Nat)(v:cH){b}{z}{g c}(d:w.cell? ⟨g,c,none⟩=some v)(e:g∉M)(h:G)(i:ops[n]?=some o:=by rfl)(j:o.op= .load b z:=by rfl)(m:fH P dr ops l n=true:=by decide+kernel)(p:Region.wanted o (yielded ops a.tmps)=true:=by rfl)(q:EC P b=true:=by decide+kernel)
 (r:a.eval z= .pointer (some ⟨g,c,none⟩):=by rfl) (u:a.put o.dst v=a':=by(go_simp;first|done|rfl)) (x:n+1=n':=by(simp only[Nat.reduceAdd];rfl)) {k} (hgo:G->T n' P dr ops w M X Q f (l.setIfInBounds n true) a' s:=by(intro k;refine go ?_;exact k)):T k P dr ops w M X Q (f+1) l a s:=
 ⟨(T.qf n (λt A W y=>by
  refine aD ?_;unfold execOp;simp only[j,r,Sem.run_bind,oL W _ b (y.base.cell d e) q,Result.andThen_ok,Sem.run_pure]) (hgo h) i m p u x).o⟩
structure TR(P:Program)(w:World)(M:List Nat)(c:Code)(Q:Exit->Act->World->Prop)(n:Nat)(a:Act)(s:List En):Prop where
 o:∀W,Hp w M s W->Code.rounds P c Q n a W
theorem TC.lp{G:Prop}(n:Nat)(h:G)(hgo:G->TC P w M c (Exit.then (Code.rounds P c Q n) Q) a s:=by(intro k;refine go ?_;exact k)):TC P w M (.loop c) Q a s:=⟨λW b=>gO (n+1) ((hgo h).o W b)⟩
theorem TE.rn{G:Prop}(h:G)(hgo:G->TC P w M c (Exit.then (Code.rounds P c Q n) Q) a s:=by(intro k;refine go ?_;exact k)):TE w M (Exit.then (Code.rounds P c Q (n+1)) Q) .normal a s:=⟨(hgo h).o⟩
def lkv(n:Nat):List (Nat×Value)->Option Value
 | []=>none
 |x::r=>bif Nat.beq x.1 n then some x.2 else lkv n r
def inR(n:Nat):List (Nat×Nat)->Bool
 | []=>false
 |x::r=>Nat.ble x.1 n&&Nat.ble n x.2||inR n r
def pat(a:List (Nat×Nat))(vs:List (Nat×Value)):Nat->List Value->List (Option Value)
 |_,[]=> []
 |n,v::l=>(bif inR n a then lkv n vs else some v)::pat a vs (n+1) l
def Jm:List (Option Value)->List Value->Prop
 | [],l=>l= []
 |some v::p,l=> ∃t,l=v::t/\Jm p t
 |none::p,l=> ∃x t,l=x::t/\Jm p t
theorem Jm.nil:Jm [] []:=rfl
theorem Jm.known{p}{l}(h:Jm p l):Jm (some v::p) (v::l):=⟨l,rfl,h⟩
theorem Jm.any{p}{l}(h:Jm p l):Jm (none::p) (v::l):=⟨v,l,rfl,h⟩
theorem Jm.hk{p}{l}(h:Jm (some v::p) l):∃t,l=v::t/\Jm p t:=h
theorem Jm.ha{p}{l}(h:Jm (none::p) l):∃x t,l=x::t/\Jm p t:=h
theorem Jm.hn{l}(h:Jm [] l):l= []:=h
theorem TE.less{e}(h:TE w M Q e a s)(b:s'=s++t):TE w M Q e a s':=⟨λW c=>h.o W (Hp.less (b▸c))⟩
theorem TC.inv{ι:Type}(j:List (Nat×Nat))(V:ι->List (Nat×Value))(F:ι->List En->List En)(C:ι->Prop)(b:ι->Nat)(g:ι){S:ι->List En}{e}{d}(q:C g)
 (h:∀(R:Act->World->Prop) i,C i->(∀f l s,C f->b f<b i->Jm (pat j (V f) 0 e) l->(∃t,s=S f++t)->TE w M (Exit.then R Q) .normal ⟨l.toArray,d⟩ s)-> ∀l,Jm (pat j (V i) 0 e) l->TC P w M c (Exit.then R Q) ⟨l.toArray,d⟩ (S i))
 (r:a=⟨e.toArray,d⟩:=by rfl) (hS:∀i,F i s=S i:=by(intro i;simp only[List.set_cons_zero,List.set_cons_succ];rfl)) (u:S g=s:=by rfl) (v:Jm (pat j (V g) 0 e) e:=by((repeat (first|apply Jm.known|apply Jm.any));exact Jm.nil)):TC P w M (.loop c) Q a s:=by
 subst r u
 have key:∀n i l,C i->b i<=n->Jm (pat j (V i) 0 e) l->TC P w M c (Exit.then (Code.rounds P c Q n) Q) ⟨l.toArray,d⟩ (S i):=by
  intro n
  induction n with
  |zero=>exact λi l k x m=>h _ i k (λf l s _ p _ _=>absurd p af) l m
  |succ n y=>exact λi l k x m=>h _ i k (λf l s z p A ⟨t,B⟩=>TE.less (t:=t) ⟨(y f l z af A).o⟩ B) l m
 exact⟨λW D=>gO (b g+1) ((key (b g) g e q (ak _) v).o W D)⟩
theorem TE.TF{fn}{R}{e}{u u2:Tmp}{b}{p j g:Nat}{m}{t}{L}{ps}(h:∀W,Hp w M s W->R (.returned (.tuple #[.agg ps.flatten.toArray,a.tmps.getD u2 undef])) W)(he:e= .ret\/e= .normal:=by first|exact .inl rfl|exact .inr rfl)(i:a.defers= []:=by rfl)(hf:fn.results= #[.cell u b,.tmp u2]:=by rfl)(l:a.tmps.getD u undef= .pointer (some ⟨g,0,none⟩):=by rfl)
 (n:s[p]?=some (bl j g m (kL t L) ps):=by first|exact Ya|exact Nt|exact Tz|exact PI|exact TA|exact TZ|exact ZW|exact ZX) (o:uS P b=true:=by decide+kernel) (q:(P.info? b).map (·.size)=some L.sum:=by decide+kernel):TE w M (bodyPost P fn R) e a s:=⟨λW d=>by
 have k:kL t L ps W.heap[g]?:=d.en _ (ah n);have r:At W g 0 ps.flatten.toArray:=At.j (show Lay W g t ps from k.2)
 have c:(results fn a.tmps).run P W= .ok (.tuple #[.agg ps.flatten.toArray,a.tmps.getD u2 undef]) W:=by
  have v:(loadVar b ⟨g,0,none⟩).run P W= .ok (.agg ps.flatten.toArray) W:=by
   have:=lK (P:=P) b r o (by rw[q,dH,jz,k.1]);simpa[Instr.loadAt,Instr.sureAddr]using this
  have f:a.tmps[u]?.getD undef= .pointer (some ⟨g,0,none⟩):=by rw[<-Array.getD_eq_getD_getElem?];exact l
  simp[results,hf,f,asAddr,v]
 rcases he with rfl|rfl
 .exact cI c i (h W d)
 .exact bodyPost_end c i (h W d)⟩
end
section
variable {P:Program}{ops:Array Oper}{C:World->Prop}
theorem mD{Q}{a}{o}{rest}(v:cH){a'}(h:wpQuiet P ops C Q rest a')
 (b:Region.wanted o (yielded ops a.tmps)=true:=by kernel_rfl)
 (hq:∀W,C W->o.quietAt P a C W v:=by(intros;refine aD ?_;go_simp))
 (c:a.put o.dst v=a':=by(go_simp;rfl)):wpQuiet P ops C Q (o::rest) a:=by
 subst c;exact e9 (λK d=>qj b ⟨v,hq,d _ h⟩)
theorem xO{Q}{a}{o}{rest}(v:cH){a'}(hq:∀W,C W->o.quietAt P a C W v)(h:wpQuiet P ops C Q rest a')
 (b:Region.wanted o (yielded ops a.tmps)=true:=by kernel_rfl)
 (c:a.put o.dst v=a':=by(go_simp;rfl)):wpQuiet P ops C Q (o::rest) a:=by
 subst c;exact e9 (λK d=>qj b ⟨v,hq,d _ h⟩)
end
section
variable {P:Program}{ops:Array Oper}{S:Type}{Cl:S->World->Prop}
theorem qQ{Q}{a}{o}{rest}(v:cH){a'}(h:jO P ops Cl Q rest a')
 (b:Region.wanted o (yielded ops a.tmps)=true:=by kernel_rfl)
 (hq:∀s W,Cl s W->o.quietAt P a (Cl s) W v:=by(intros;refine aD ?_;go_simp))
 (c:a.put o.dst v=a':=by(go_simp;rfl)):jO P ops Cl Q (o::rest) a:=by
 subst c;exact bS (λK d=>lG b ⟨v,hq,d _ h⟩)
theorem rD{Q}{a}{o}{rest}(v:cH){a'}(hq:∀s W,Cl s W->o.quietAt P a (Cl s) W v)(h:jO P ops Cl Q rest a')
 (b:Region.wanted o (yielded ops a.tmps)=true:=by kernel_rfl)
 (c:a.put o.dst v=a':=by(go_simp;rfl)):jO P ops Cl Q (o::rest) a:=by
 subst c;exact bS (λK d=>lG b ⟨v,hq,d _ h⟩)
end
theorem pt{w}{t}{P}{ops}{Q}{a}{o}{rest}(v:cH){a'}(h:jO P ops (Mk w t) Q rest a')
 (c:Region.wanted o (yielded ops a.tmps)=true:=by kernel_rfl)
 (hq:∀s W,Mk w t s W->o.quietAt P a (Mk w t s) W v:=by(intro s W b;replace b:=Mk.base b;refine aD ?_;go_simp))
 (d:a.put o.dst v=a':=by(go_simp;rfl)):jO P ops (Mk w t) Q (o::rest) a:=by
 subst d;exact bS (λK e=>lG c ⟨v,hq,e _ h⟩)
end Go.Spk
open Go.Proofs.Tryz
namespace Go.Spk
def pv(f:Nat->Int):Nat->Int
 |0=>0
 |n+1=>pv f n+f n*65536^n
def dg(n:Nat):List Int:=if h:n=0 then[]else((n %65536:Nat):Int)::dg (n/65536)
termination_by n
decreasing_by omega
end Go.Spk
namespace Go.Proofs.P
open Go.RowKit Go.Spk
structure Dr(w:World)(g cap:Nat)(xs:List Int):Prop where
 lt:g<w.heap.size
 room:xs.length<=cap
 max:cap<=maxLen
 cell:∀i,i<xs.length->w.cell? ⟨g,i,none⟩=some (.int .i64 (ix xs i))
theorem Dr.below{w w'}{g cap B}{xs}(h:Dr w g cap xs)(a:Below B w w')(b:g<B):Dr w' g cap xs:=
 ⟨aL h.lt a.size,h.room,h.max,λi c=>(a.cell b).trans (h.cell i c)⟩
theorem Dr.on{w w'}{g cap}{xs}(h:Dr w g cap xs)(a:Below w.heap.size w w'):Dr w' g cap xs:=h.below a h.lt
theorem Dr.take{w}{g cap}{xs}(h:Dr w g cap xs)(n:Nat):Dr w g cap (xs.take n):=
 ⟨h.lt,by have:=h.room;simp;omega,h.max,λi a=>by
  rw[aO]at a;rw[h.cell i af];congr 2;unfold ix;simp[List.getD,show i<n by omega]⟩
def jI(n m:Nat):List Int:=(List.range m).map λj=>((n/256^j %256:Nat):Int)
theorem eJ(n m:Nat):(jI n m).length=m:=by simp[jI]
theorem yI(n m:Nat):jI n (m+1)=jI n m++ [((n/256^m %256:Nat):Int)]:=by simp[jI,List.range_succ]
theorem vv(n m:Nat):∀b∈jI n m,0<=b/\b<=255:=by
 intro b a;obtain⟨j,_,rfl⟩:=fZ.1 a;omega
def nb:List Int->Int
 | []=>0
 |b::a=>b+256*nb a
def zq:Nat:=2^130
def PP:Nat:=zq -5
theorem Zy:PP+5=zq:=by decide+kernel
def Bs(v:Nat):Nat:=v %zq+v/zq*5
theorem Sq(v:Nat):Bs v %PP=v %PP:=by
 unfold Bs;have a:=Nat.div_add_mod v zq
 have e:v=(v %zq+v/zq*5)+PP*(v/zq):=by
  rw[<-Zy]at a⊢;rw[Nat.add_mul]at a;omega
 conv=>rhs;rw[e]
 rw[Nat.add_mul_mod_self_left]
def vh(ws:List Int)(k:Nat):List Int:=(ws.drop (16*k)).take 16++ [1]
def Ao(R:Nat)(ws:List Int):Nat->Nat
 |0=>0
 |k+1=>(Ao R ws k+(nb (vh ws k)).toNat)*R %PP
theorem Rz(a:aR)(h:∀b∈a,0<=b/\b<=255):0<=nb a/\nb a<256^a.length:=by
 induction a with
 |nil=>simp[nb]
 |cons b a c=>
  have e:=h b bj;have f:=c (λx d=>h x (by simp[d]));simp only[nb,List.length_cons,Int.pow_succ];generalize(256:Int)^a.length=P at*;omega
def Lo(f:Int->Int)(qs:List Nat)(ws:List Int):Nat->List Int
 |0=>ws
 |n+1=>(Lo f qs ws n).set (qs.getD n 0) (f (ix (Lo f qs ws n) (qs.getD n 0)))
def qsA:List Nat:= [3,7,11,15]
def qsB:List Nat:= [4,8,12]
def Qe(a:List Int):List Int:=Lo (λx=>x/4*4) qsB (Lo (λx=>x %16) qsA (a.take 16) 4) 3
def q6(a:List Int):Nat:=(nb (Qe a)).toNat
def DX(a ws:List Int):Nat:=Ao (q6 a) ws ((ws.length+15)/16)+(nb (a.drop 16)).toNat
def Ir(a ws:List Int):List Int:=jI (DX a ws) 16
def Kp(w:World)(a c1 R b c4:Nat)(W:World):Prop:=Below w.heap.size w W/\Dr W a c1 (dg R)/\Dr W b c4 (dg PP)
theorem Kp.on{w}{g1 c1 R g4 c4}{W W'}(h:Kp w g1 c1 R g4 c4 W)(a:Below W.heap.size W W'):Kp w g1 c1 R g4 c4 W':=
 ⟨h.1.trans (a.mono h.1.size),h.2.1.on a,h.2.2.on a⟩
end Go.Proofs.P
namespace Go.Proofs
open Go.Shelf
def lays170_ren:Go.Shelf.Ren:=⟨λ|170=>95|n=>n,λ|70=>152|3=>3|0=>0|72=>154|37=>99|5=>5|n=>n,λ|n=>n⟩
theorem lays170:Go.Proofs.Lays.n170 prog lays170_ren:={
 mixed:=al
 f170:=func95.trans (aA some al)
 t0:=underlying0
 a0:=isAgg0
 z0:=sizeOf0
 v0:=zeroValue0
 t3:=underlying3
 a3:=isAgg3
 z3:=sizeOf3
 v3:=zeroValue3
 t37:=underlying99
 a37:=isAgg99
 z37:=sizeOf99
 v37:=zeroValue99
 t70:=underlying152
 a70:=isAgg152
 z70:=sizeOf152
 v70:=zeroValue152
 t72:=underlying154
 a72:=isAgg154
 z72:=sizeOf154
 v72:=zeroValue154}
open Go.RowKit in
theorem Builder_Len(B b:Nat)(a:gF)(w:ay)(h:Lib.IsBuilder 154 5 B b a w):
 Calls prog 95 #[.pointer (some ⟨b,0,none⟩)] w λe c=>e= .returned (.int .i64 a.length)/\c=w:=Any.Builder_Len lays170 B b a w h
def lays169_ren:Go.Shelf.Ren:=⟨λ|169=>93|n=>n,λ|70=>152|9=>9|0=>0|72=>154|37=>99|127=>229|3=>3|5=>5|n=>n,λ|n=>n⟩
theorem lays169:Go.Proofs.Lays.n169 prog lays169_ren:={
 mixed:=al
 f169:=func93.trans (aA some al)
 t0:=underlying0
 a0:=isAgg0
 z0:=sizeOf0
 v0:=zeroValue0
 t3:=underlying3
 a3:=isAgg3
 z3:=sizeOf3
 v3:=zeroValue3
 t9:=underlying9
 a9:=isAgg9
 z9:=sizeOf9
 v9:=zeroValue9
 t37:=underlying99
 a37:=isAgg99
 z37:=sizeOf99
 v37:=zeroValue99
 t70:=underlying152
 a70:=isAgg152
 z70:=sizeOf152
 v70:=zeroValue152
 t72:=underlying154
 a72:=isAgg154
 z72:=sizeOf154
 v72:=zeroValue154
 t127:=underlying229
 a127:=isAgg229
 z127:=sizeOf229
 v127:=zeroValue229}
theorem Builder_Extra_169:Builder.Extra prog lays169_ren:={
 sizeBuilder:=al
 liesBuilder:=al
 t5:=underlying5
 a5:=isAgg5
 z5:=sizeOf5
 v5:=zeroValue5
 infoByte:=al
 cellsByte:=al
 sizeByte:=al
 neB5:=by decide}
open Go.RowKit in
theorem Builder_String_any(B b:Nat)(l:List UInt8)(w:ay)(h:Lib.IsBuilder 154 5 B b (Lib.byteCells l) w)(a:B<=w.heap.size):
 Calls prog 93 #[.pointer (some ⟨b,0,none⟩)] w λe c=>e= .returned (.string ⟨l.toArray⟩)/\Below B w c:=Any.Builder_String_any lays169 Builder_Extra_169 B b l w h a
def lays156_ren:Go.Shelf.Ren:=⟨λ|156=>90|165=>120|166=>97|169=>93|240=>123|241=>162|276=>165|277=>197|n=>n,λ|31=>33|9=>9|3=>3|4=>4|0=>0|20=>20|72=>154|76=>200|70=>152|37=>99|75=>27|127=>229|164=>121|5=>5|80=>113|n=>n,λ|n=>n⟩
theorem lays156:Go.Proofs.Lays.n156 prog lays156_ren:={
 mixed:=al
 f156:=func90.trans (aA some al)
 f165:=func120.trans (aA some al)
 f166:=func97.trans (aA some al)
 f169:=func93.trans (aA some al)
 f240:=func123.trans (aA some al)
 f241:=func162.trans (aA some al)
 f276:=func165.trans (aA some al)
 f277:=func197.trans (aA some al)
 t0:=underlying0
 a0:=isAgg0
 z0:=sizeOf0
 v0:=zeroValue0
 t3:=underlying3
 a3:=isAgg3
 z3:=sizeOf3
 v3:=zeroValue3
 t4:=underlying4
 a4:=isAgg4
 z4:=sizeOf4
 v4:=zeroValue4
 t9:=underlying9
 a9:=isAgg9
 z9:=sizeOf9
 v9:=zeroValue9
 t20:=underlying20
 a20:=isAgg20
 z20:=sizeOf20
 v20:=zeroValue20
 t31:=underlying33
 a31:=isAgg33
 z31:=sizeOf33
 v31:=zeroValue33
 t37:=underlying99
 a37:=isAgg99
 z37:=sizeOf99
 v37:=zeroValue99
 t70:=underlying152
 a70:=isAgg152
 z70:=sizeOf152
 v70:=zeroValue152
 t72:=underlying154
 a72:=isAgg154
 z72:=sizeOf154
 v72:=zeroValue154
 t75:=underlying27
 a75:=isAgg27
 z75:=sizeOf27
 v75:=zeroValue27
 t76:=underlying200
 a76:=isAgg200
 z76:=sizeOf200
 v76:=zeroValue200
 t127:=underlying229
 a127:=isAgg229
 z127:=sizeOf229
 v127:=zeroValue229
 t164:=underlying121
 a164:=isAgg121
 z164:=sizeOf121
 v164:=zeroValue121}
theorem Builder_Extra_156:Builder.Extra prog lays156_ren:={
 sizeBuilder:=al
 liesBuilder:=al
 t5:=underlying5
 a5:=isAgg5
 z5:=sizeOf5
 v5:=zeroValue5
 infoByte:=al
 cellsByte:=al
 sizeByte:=al
 neB5:=by decide}
open Go.RowKit in
theorem strings_Join_none(a:Option Addr)(c:Nat)(b:bB)(w:ay):
 Calls prog 90 #[.slice a 0 c,.string b] w λe d=>e= .returned (.string ⟨#[]⟩)/\d=w:=Any.strings_Join_none lays156 Builder_Extra_156 a c b w
open Go.RowKit in
theorem strings_Join(g o c:Nat)(xs:eL)(a:bB)(w:ay)(b:∀(j:Nat) x,xs[j]?=some x->w.cell? ⟨g,o+j,none⟩=some (.string x))(h:g<w.heap.size)(i:xs.length<=140737488355328)(d:xs.length<=c)(f:(Lib.join (xs.map (·.data.toList)) a.data.toList).length<=140737488355328):
 Calls prog 90 #[.slice (some ⟨g,o,none⟩) xs.length c,.string a] w λe k=>e= .returned (.string ⟨(Lib.join (xs.map (·.data.toList)) a.data.toList).toArray⟩)/\Below w.heap.size w k:=Any.strings_Join lays156 Builder_Extra_156 g o c xs a w b h i d f
def lays161_ren:Go.Shelf.Ren:=⟨λ|161=>216|231=>231|227=>232|233=>233|235=>234|228=>241|197=>240|151=>242|260=>244|152=>245|137=>246|119=>247|224=>206|225=>205|217=>204|266=>227|n=>n,λ|9=>9|4=>4|3=>3|5=>5|117=>335|116=>334|0=>0|124=>338|105=>346|21=>21|119=>351|46=>131|139=>354|138=>353|n=>n,λ|3=>28|4=>29|n=>n⟩
theorem lays161:Go.Proofs.Lays.n161 prog lays161_ren:={
 mixed:=al
 f119:=func247.trans (aA some al)
 f137:=func246.trans (aA some al)
 f151:=func242.trans (aA some al)
 f152:=func245.trans (aA some al)
 f161:=func216.trans (aA some al)
 f197:=func240.trans (aA some al)
 f217:=func204.trans (aA some al)
 f224:=func206.trans (aA some al)
 f225:=func205.trans (aA some al)
 f227:=func232.trans (aA some al)
 f228:=func241.trans (aA some al)
 f231:=func231.trans (aA some al)
 f233:=func233.trans (aA some al)
 f235:=func234.trans (aA some al)
 f260:=func244.trans (aA some al)
 f266:=func227.trans (aA some al)
 t0:=underlying0
 a0:=isAgg0
 z0:=sizeOf0
 v0:=zeroValue0
 t3:=underlying3
 a3:=isAgg3
 z3:=sizeOf3
 v3:=zeroValue3
 t4:=underlying4
 a4:=isAgg4
 z4:=sizeOf4
 v4:=zeroValue4
 t5:=underlying5
 a5:=isAgg5
 z5:=sizeOf5
 v5:=zeroValue5
 t9:=underlying9
 a9:=isAgg9
 z9:=sizeOf9
 v9:=zeroValue9
 t21:=underlying21
 a21:=isAgg21
 z21:=sizeOf21
 v21:=zeroValue21
 t46:=underlying131
 a46:=isAgg131
 z46:=sizeOf131
 v46:=zeroValue131
 t105:=underlying346
 a105:=isAgg346
 z105:=sizeOf346
 v105:=zeroValue346
 t116:=underlying334
 a116:=isAgg334
 z116:=sizeOf334
 t117:=underlying335
 a117:=isAgg335
 z117:=sizeOf335
 v117:=zeroValue335
 t119:=underlying351
 a119:=isAgg351
 z119:=sizeOf351
 t124:=underlying338
 a124:=isAgg338
 z124:=sizeOf338
 v124:=zeroValue338
 t138:=underlying353
 a138:=isAgg353
 z138:=sizeOf353
 v138:=zeroValue353
 t139:=underlying354
 a139:=isAgg354
 z139:=sizeOf354
 v139:=zeroValue354
 g3:=al
 g4:=by kernel_rfl}
open Go.RowKit in
theorem strings_TrimLeft_one(s:bB)(c:UInt8)(a:c.toNat<128)(w:ay):
 Calls prog 216 #[.string s,.string ⟨#[c]⟩] w λe b=>e= .returned (.string ⟨(Lib.trimLeftB s.data.toList c).toArray⟩)/\b=w:=Any.strings_TrimLeft_one lays161 s c a w
def lays103_ren:Go.Shelf.Ren:=⟨λ|103=>176|210=>208|206=>164|n=>n,λ|9=>9|4=>4|24=>150|3=>3|n=>n,λ|n=>n⟩
theorem lays103:Go.Proofs.Lays.n103 prog lays103_ren:={
 mixed:=al
 f103:=func176.trans (aA some al)
 f206:=func164.trans (aA some al)
 f210:=func208.trans (aA some al)
 t3:=underlying3
 a3:=isAgg3
 z3:=sizeOf3
 v3:=zeroValue3
 t4:=underlying4
 a4:=isAgg4
 z4:=sizeOf4
 v4:=zeroValue4
 t9:=underlying9
 a9:=isAgg9
 z9:=sizeOf9
 v9:=zeroValue9
 t24:=underlying150
 a24:=isAgg150
 z24:=sizeOf150
 v24:=zeroValue150}
open Go.RowKit in
theorem strings_CutPrefix(s p:bB)(w:ay):
 Calls prog 176 #[.string s,.string p] w λe a=>e= .returned (.tuple #[.string ⟨(Lib.trimPrefix s.data.toList p.data.toList).toArray⟩,.bool (Lib.hasPrefix s.data.toList p.data.toList)])/\a=w:=Any.strings_CutPrefix lays103 s p w
def lays144_ren:Go.Shelf.Ren:=⟨λ|144=>135|143=>171|219=>175|217=>204|225=>205|224=>206|267=>207|266=>227|314=>228|n=>n,λ|9=>9|4=>4|3=>3|5=>5|46=>131|146=>265|51=>147|n=>n,λ|1=>24|n=>n⟩
theorem lays144:Go.Proofs.Lays.n144 prog lays144_ren:={
 mixed:=al
 f143:=func171.trans (aA some al)
 f144:=func135.trans (aA some al)
 f217:=func204.trans (aA some al)
 f219:=func175.trans (aA some al)
 f224:=func206.trans (aA some al)
 f225:=func205.trans (aA some al)
 f266:=func227.trans (aA some al)
 f267:=func207.trans (aA some al)
 f314:=func228.trans (aA some al)
 t3:=underlying3
 a3:=isAgg3
 z3:=sizeOf3
 v3:=zeroValue3
 t4:=underlying4
 a4:=isAgg4
 z4:=sizeOf4
 v4:=zeroValue4
 t5:=underlying5
 a5:=isAgg5
 z5:=sizeOf5
 v5:=zeroValue5
 t9:=underlying9
 a9:=isAgg9
 z9:=sizeOf9
 v9:=zeroValue9
 t46:=underlying131
 a46:=isAgg131
 z46:=sizeOf131
 v46:=zeroValue131
 t51:=underlying147
 a51:=isAgg147
 z51:=sizeOf147
 v51:=zeroValue147
 t146:=underlying265
 a146:=isAgg265
 z146:=sizeOf265
 v146:=zeroValue265
 g1:=by kernel_rfl}
open Go.RowKit Go.Lib in
theorem strings_Contains(s a:bB)(m:Int)(w:ay)(b:s.size<4294967281)(hm:w.cell? ⟨24,0,none⟩=some (.int .i64 m)):
 Calls prog 135 #[.string s,.string a] w λe c=>e= .returned (.bool (Lib.contains s.data.toList a.data.toList))/\c=w:=Any.strings_Contains lays144 s a m w b hm
def lays145_ren:Go.Shelf.Ren:=⟨λ|145=>103|220=>134|219=>175|217=>204|225=>205|224=>206|267=>207|266=>227|314=>228|n=>n,λ|9=>9|4=>4|59=>209|3=>3|5=>5|46=>131|146=>265|51=>147|n=>n,λ|1=>24|n=>n⟩
theorem lays145:Go.Proofs.Lays.n145 prog lays145_ren:={
 mixed:=al
 f145:=func103.trans (aA some al)
 f217:=func204.trans (aA some al)
 f219:=func175.trans (aA some al)
 f220:=func134.trans (aA some al)
 f224:=func206.trans (aA some al)
 f225:=func205.trans (aA some al)
 f266:=func227.trans (aA some al)
 f267:=func207.trans (aA some al)
 f314:=func228.trans (aA some al)
 t3:=underlying3
 a3:=isAgg3
 z3:=sizeOf3
 v3:=zeroValue3
 t4:=underlying4
 a4:=isAgg4
 z4:=sizeOf4
 v4:=zeroValue4
 t5:=underlying5
 a5:=isAgg5
 z5:=sizeOf5
 v5:=zeroValue5
 t9:=underlying9
 a9:=isAgg9
 z9:=sizeOf9
 v9:=zeroValue9
 t46:=underlying131
 a46:=isAgg131
 z46:=sizeOf131
 v46:=zeroValue131
 t51:=underlying147
 a51:=isAgg147
 z51:=sizeOf147
 v51:=zeroValue147
 t59:=underlying209
 a59:=isAgg209
 z59:=sizeOf209
 v59:=zeroValue209
 t146:=underlying265
 a146:=isAgg265
 z146:=sizeOf265
 v146:=zeroValue265
 g1:=by kernel_rfl}
open Go.RowKit Go.Lib in
theorem strings_Cut(s a:bB)(m:Int)(w:ay)(b:s.size<4294967281)(hm:w.cell? ⟨24,0,none⟩=some (.int .i64 m)):
 Calls prog 103 #[.string s,.string a] w λe c=>e= .returned (.tuple #[.string ⟨(Lib.cut s.data.toList a.data.toList).1.toArray⟩,.string ⟨(Lib.cut s.data.toList a.data.toList).2.1.toArray⟩,.bool (Lib.cut s.data.toList a.data.toList).2.2])/\ ∃n,c=w.drewN n:=Any.strings_Cut lays145 s a m w b hm
def lays138_ren:Go.Shelf.Ren:=⟨λ|138=>130|195=>169|218=>170|143=>171|219=>175|217=>204|225=>205|224=>206|267=>207|266=>227|314=>228|n=>n,λ|9=>9|3=>3|4=>4|5=>5|0=>0|46=>131|146=>265|51=>147|n=>n,λ|1=>24|n=>n⟩
theorem lays138:Go.Proofs.Lays.n138 prog lays138_ren:={
 mixed:=al
 f138:=func130.trans (aA some al)
 f143:=func171.trans (aA some al)
 f195:=func169.trans (aA some al)
 f217:=func204.trans (aA some al)
 f218:=func170.trans (aA some al)
 f219:=func175.trans (aA some al)
 f224:=func206.trans (aA some al)
 f225:=func205.trans (aA some al)
 f266:=func227.trans (aA some al)
 f267:=func207.trans (aA some al)
 f314:=func228.trans (aA some al)
 t0:=underlying0
 a0:=isAgg0
 z0:=sizeOf0
 v0:=zeroValue0
 t3:=underlying3
 a3:=isAgg3
 z3:=sizeOf3
 v3:=zeroValue3
 t4:=underlying4
 a4:=isAgg4
 z4:=sizeOf4
 v4:=zeroValue4
 t5:=underlying5
 a5:=isAgg5
 z5:=sizeOf5
 v5:=zeroValue5
 t9:=underlying9
 a9:=isAgg9
 z9:=sizeOf9
 v9:=zeroValue9
 t46:=underlying131
 a46:=isAgg131
 z46:=sizeOf131
 v46:=zeroValue131
 t51:=underlying147
 a51:=isAgg147
 z51:=sizeOf147
 v51:=zeroValue147
 t146:=underlying265
 a146:=isAgg265
 z146:=sizeOf265
 v146:=zeroValue265
 g1:=by kernel_rfl}
open Go.RowKit Go.Lib in
theorem strings_Count_one(s:bB)(c:UInt8)(w:ay):
 Calls prog 130 #[.string s,.string ⟨#[c]⟩] w λe a=>e= .returned (.int .i64 (Lib.countByte s.data.toList c))/\a=w:=Any.strings_Count_one lays138 s c w
def laysM143_ren:Go.Shelf.Ren:=⟨λ|143=>171|219=>175|217=>204|225=>205|224=>206|267=>207|266=>227|314=>228|n=>n,λ|9=>9|3=>3|4=>4|5=>5|46=>131|146=>265|51=>147|n=>n,λ|1=>24|n=>n⟩
theorem laysM143:Go.Proofs.LaysM.n143 prog laysM143_ren:={
 mixed:=al
 f143:=func171.trans (aA some al)
 f217:=func204.trans (aA some al)
 f219:=func175.trans (aA some al)
 f224:=func206.trans (aA some al)
 f225:=func205.trans (aA some al)
 f266:=func227.trans (aA some al)
 f267:=func207.trans (aA some al)
 f314:=func228.trans (aA some al)
 t3:=underlying3
 a3:=isAgg3
 z3:=sizeOf3
 v3:=zeroValue3
 t4:=underlying4
 a4:=isAgg4
 z4:=sizeOf4
 v4:=zeroValue4
 t5:=underlying5
 a5:=isAgg5
 z5:=sizeOf5
 v5:=zeroValue5
 t9:=underlying9
 a9:=isAgg9
 z9:=sizeOf9
 v9:=zeroValue9
 t46:=underlying131
 a46:=isAgg131
 z46:=sizeOf131
 v46:=zeroValue131
 t51:=underlying147
 a51:=isAgg147
 z51:=sizeOf147
 v51:=zeroValue147
 t146:=underlying265
 a146:=isAgg265
 z146:=sizeOf265
 v146:=zeroValue265
 g1:=al
 i3:=al
 i4:=al
 i5:=al
 i9:=al
 i46:=al
 i51:=al
 i146:=al
 m1:=al
 s1_3:=λw h=>Go.Proofs.cell_of_shapedOpen_int (zero:= #[.int .i64 0]) (t:=3) h (qy al) al rfl al al underlying3}
def lays99_ren:Go.Shelf.Ren:=⟨λ|99=>122|206=>164|n=>n,λ|9=>9|4=>4|3=>3|n=>n,λ|n=>n⟩
theorem lays99:Go.Proofs.Lays.n99 prog lays99_ren:={
 mixed:=al
 f99:=func122.trans (aA some al)
 f206:=func164.trans (aA some al)
 t3:=underlying3
 a3:=isAgg3
 z3:=sizeOf3
 v3:=zeroValue3
 t4:=underlying4
 a4:=isAgg4
 z4:=sizeOf4
 v4:=zeroValue4
 t9:=underlying9
 a9:=isAgg9
 z9:=sizeOf9
 v9:=zeroValue9}
open Go.RowKit Go.Lib in
theorem strings_HasPrefix(s p:bB)(w:ay):
 Calls prog 122 #[.string s,.string p] w λe a=>e= .returned (.bool (Lib.hasPrefix s.data.toList p.data.toList))/\a=w:=Any.strings_HasPrefix lays99 s p w
def lays102_ren:Go.Shelf.Ren:=⟨λ|102=>105|209=>137|207=>177|n=>n,λ|9=>9|4=>4|3=>3|n=>n,λ|n=>n⟩
theorem lays102:Go.Proofs.Lays.n102 prog lays102_ren:={
 mixed:=al
 f102:=func105.trans (aA some al)
 f207:=func177.trans (aA some al)
 f209:=func137.trans (aA some al)
 t3:=underlying3
 a3:=isAgg3
 z3:=sizeOf3
 v3:=zeroValue3
 t4:=underlying4
 a4:=isAgg4
 z4:=sizeOf4
 v4:=zeroValue4
 t9:=underlying9
 a9:=isAgg9
 z9:=sizeOf9
 v9:=zeroValue9}
open Go.RowKit Go.Lib in
theorem strings_TrimSuffix(s p:bB)(w:ay)(a:s.size<=9223372036854775807):
 Calls prog 105 #[.string s,.string p] w λe b=>e= .returned (.string ⟨(Lib.trimSuffix s.data.toList p.data.toList).toArray⟩)/\b=w:=Any.strings_TrimSuffix lays102 s p w a
def lays146_ren:Go.Shelf.Ren:=⟨λ|146=>180|221=>209|268=>229|138=>130|143=>171|195=>169|197=>240|218=>170|219=>175|260=>244|217=>204|225=>205|224=>206|267=>207|266=>227|314=>228|n=>n,λ|9=>9|31=>33|3=>3|4=>4|0=>0|105=>346|21=>21|5=>5|46=>131|119=>351|139=>354|138=>353|146=>265|51=>147|n=>n,λ|1=>24|3=>28|4=>29|n=>n⟩
theorem lays146:Go.Proofs.Lays.n146 prog lays146_ren:={
 mixed:=al
 f138:=func130.trans (aA some al)
 f143:=func171.trans (aA some al)
 f146:=func180.trans (aA some al)
 f195:=func169.trans (aA some al)
 f197:=func240.trans (aA some al)
 f217:=func204.trans (aA some al)
 f218:=func170.trans (aA some al)
 f219:=func175.trans (aA some al)
 f221:=func209.trans (aA some al)
 f224:=func206.trans (aA some al)
 f225:=func205.trans (aA some al)
 f260:=func244.trans (aA some al)
 f266:=func227.trans (aA some al)
 f267:=func207.trans (aA some al)
 f268:=func229.trans (aA some al)
 f314:=func228.trans (aA some al)
 t0:=underlying0
 a0:=isAgg0
 z0:=sizeOf0
 v0:=zeroValue0
 t3:=underlying3
 a3:=isAgg3
 z3:=sizeOf3
 v3:=zeroValue3
 t4:=underlying4
 a4:=isAgg4
 z4:=sizeOf4
 v4:=zeroValue4
 t5:=underlying5
 a5:=isAgg5
 z5:=sizeOf5
 v5:=zeroValue5
 t9:=underlying9
 a9:=isAgg9
 z9:=sizeOf9
 v9:=zeroValue9
 t21:=underlying21
 a21:=isAgg21
 z21:=sizeOf21
 v21:=zeroValue21
 t31:=underlying33
 a31:=isAgg33
 z31:=sizeOf33
 v31:=zeroValue33
 t46:=underlying131
 a46:=isAgg131
 z46:=sizeOf131
 v46:=zeroValue131
 t51:=underlying147
 a51:=isAgg147
 z51:=sizeOf147
 v51:=zeroValue147
 t105:=underlying346
 a105:=isAgg346
 z105:=sizeOf346
 v105:=zeroValue346
 t119:=underlying351
 a119:=isAgg351
 z119:=sizeOf351
 t138:=underlying353
 a138:=isAgg353
 z138:=sizeOf353
 v138:=zeroValue353
 t139:=underlying354
 a139:=isAgg354
 z139:=sizeOf354
 v139:=zeroValue354
 t146:=underlying265
 a146:=isAgg265
 z146:=sizeOf265
 v146:=zeroValue265
 g1:=al
 g3:=al
 g4:=by kernel_rfl}
open Go.RowKit Go.Lib in
theorem strings_Split(s a:bB)(m:Int)(w:ay)(b:s.size<4294967281)(hm:w.cell? ⟨24,0,none⟩=some (.int .i64 m))(h1:1<=a.size):
 Calls prog 180 #[.string s,.string a] w λe c=>
  e= .returned (.slice (some ⟨w.heap.size,0,none⟩) (Lib.countB s a+1) (Lib.countB s a+1))/\c=w.alloc (.cells ((Lib.splitB a 0 (Lib.countB s a) s).map Value.string).toArray 9):=Any.strings_Split lays146 al s a m w b hm h1
def lays264_ren:Go.Shelf.Ren:=⟨λ|264=>54|n=>n,λ|53=>47|46=>131|n=>n,λ|n=>n⟩
theorem lays264:Go.Proofs.Lays.n264 prog lays264_ren:={
 mixed:=al
 f264:=func54.trans (aA some al)
 t46:=underlying131
 a46:=isAgg131
 z46:=sizeOf131
 v46:=zeroValue131
 t53:=underlying47
 a53:=isAgg47
 z53:=sizeOf47
 v53:=zeroValue47}
open Go.RowKit Go.Lib in
theorem bits_Mul64(x y:Nat)(a:x<18446744073709551616)(b:y<18446744073709551616)(w:ay):
 Calls prog 54 #[.int .u64 x,.int .u64 y] w λe c=>e= .returned (.tuple #[.int .u64 ((x*y/18446744073709551616:Nat):Int),.int .u64 ((x*y %18446744073709551616:Nat):Int)])/\c=w:=Any.bits_Mul64 lays264 x y a b w
def lays105_ren:Go.Shelf.Ren:=⟨λ|105=>91|212=>121|99=>122|165=>120|166=>97|170=>95|169=>93|263=>163|264=>54|206=>164|240=>123|241=>162|276=>165|277=>197|n=>n,λ|9=>9|3=>3|4=>4|20=>20|0=>0|46=>131|109=>226|5=>5|72=>154|76=>200|51=>147|146=>265|53=>47|148=>136|70=>152|37=>99|75=>27|127=>229|164=>121|80=>113|n=>n,λ|n=>n⟩
theorem lays105:Go.Proofs.Lays.n105 prog lays105_ren:={
 mixed:=al
 f99:=func122.trans (aA some al)
 f105:=func91.trans (aA some al)
 f165:=func120.trans (aA some al)
 f166:=func97.trans (aA some al)
 f169:=func93.trans (aA some al)
 f170:=func95.trans (aA some al)
 f206:=func164.trans (aA some al)
 f212:=func121.trans (aA some al)
 f240:=func123.trans (aA some al)
 f241:=func162.trans (aA some al)
 f263:=func163.trans (aA some al)
 f264:=func54.trans (aA some al)
 f276:=func165.trans (aA some al)
 f277:=func197.trans (aA some al)
 t0:=underlying0
 a0:=isAgg0
 z0:=sizeOf0
 v0:=zeroValue0
 t3:=underlying3
 a3:=isAgg3
 z3:=sizeOf3
 v3:=zeroValue3
 t4:=underlying4
 a4:=isAgg4
 z4:=sizeOf4
 v4:=zeroValue4
 t5:=underlying5
 a5:=isAgg5
 z5:=sizeOf5
 v5:=zeroValue5
 t9:=underlying9
 a9:=isAgg9
 z9:=sizeOf9
 v9:=zeroValue9
 t20:=underlying20
 a20:=isAgg20
 z20:=sizeOf20
 v20:=zeroValue20
 t37:=underlying99
 a37:=isAgg99
 z37:=sizeOf99
 v37:=zeroValue99
 t46:=underlying131
 a46:=isAgg131
 z46:=sizeOf131
 v46:=zeroValue131
 t51:=underlying147
 a51:=isAgg147
 z51:=sizeOf147
 v51:=zeroValue147
 t53:=underlying47
 a53:=isAgg47
 z53:=sizeOf47
 v53:=zeroValue47
 t70:=underlying152
 a70:=isAgg152
 z70:=sizeOf152
 v70:=zeroValue152
 t72:=underlying154
 a72:=isAgg154
 z72:=sizeOf154
 v72:=zeroValue154
 t75:=underlying27
 a75:=isAgg27
 z75:=sizeOf27
 v75:=zeroValue27
 t76:=underlying200
 a76:=isAgg200
 z76:=sizeOf200
 v76:=zeroValue200
 t109:=underlying226
 a109:=isAgg226
 z109:=sizeOf226
 v109:=zeroValue226
 t127:=underlying229
 a127:=isAgg229
 z127:=sizeOf229
 v127:=zeroValue229
 t146:=underlying265
 a146:=isAgg265
 z146:=sizeOf265
 v146:=zeroValue265
 t148:=underlying136
 a148:=isAgg136
 z148:=sizeOf136
 v148:=zeroValue136
 t164:=underlying121
 a164:=isAgg121
 z164:=sizeOf121
 v164:=zeroValue121}
theorem Builder_Extra_105:Builder.Extra prog lays105_ren:={
 sizeBuilder:=al
 liesBuilder:=al
 t5:=underlying5
 a5:=isAgg5
 z5:=sizeOf5
 v5:=zeroValue5
 infoByte:=al
 cellsByte:=al
 sizeByte:=al
 neB5:=by decide}
open Go.RowKit Go.Lib in
theorem strings_Repeat(s:bB)(c:Nat)(w:ay)(b:c<=9223372036854775807)(a:s.size*c<=140737488355328):
 Calls prog 91 #[.string s,.int .i64 c] w λe d=>e= .returned (.string ⟨(Lib.repeatL s.data.toList c).toArray⟩)/\Below w.heap.size w d:=Any.strings_Repeat lays105 Builder_Extra_105 s c w b a
def lays110_ren:Go.Shelf.Ren:=⟨λ|110=>210|109=>230|n=>n,λ|31=>33|9=>9|4=>4|3=>3|0=>0|n=>n,λ|n=>n⟩
theorem lays110:Go.Proofs.Lays.n110 prog lays110_ren:={
 mixed:=al
 f109:=func230.trans (aA some al)
 f110:=func210.trans (aA some al)
 t0:=underlying0
 a0:=isAgg0
 z0:=sizeOf0
 v0:=zeroValue0
 t3:=underlying3
 a3:=isAgg3
 z3:=sizeOf3
 v3:=zeroValue3
 t4:=underlying4
 a4:=isAgg4
 z4:=sizeOf4
 v4:=zeroValue4
 t9:=underlying9
 a9:=isAgg9
 z9:=sizeOf9
 v9:=zeroValue9
 t31:=underlying33
 a31:=isAgg33
 z31:=sizeOf33
 v31:=zeroValue33}
open Go.Lib in
theorem slices_Contains_string(b a n c:Nat)(d:eL)(x:bB)(w:ay)(hz:n<=d.length)(f:n<=9223372036854775807)(g:∀j,j<d.length->w.cell? ⟨b,a+j,none⟩=some (.string (d.getD j ByteArray.empty))):
 Calls prog 210 #[.slice (some ⟨b,a,none⟩) n c,.string x] w λe h=>e= .returned (.bool (Lib.containsS (d.take n) x))/\h=w:=Any.slices_Contains_string lays110 b a n c d x w hz f g
open Go.Lib in
theorem slices_Contains_string_empty(a:Option Addr)(c:Nat)(x:bB)(w:ay):
 Calls prog 210 #[.slice a 0 c,.string x] w λe b=>e= .returned (.bool false)/\b=w:=Any.slices_Contains_string_empty lays110 a c x w
def laysNm216_ren:Go.Shelf.Ren:=⟨λ|16=>62|n=>n,λ|24=>33|9=>9|4=>4|n=>n,λ|n=>n⟩
theorem laysNm216:Go.Proofs.Lays2.n16 prog laysNm216_ren:={
 mixed:=al
 f16:=func62.trans (aA some al)
 t4:=underlying4
 a4:=isAgg4
 z4:=sizeOf4
 v4:=zeroValue4
 t9:=underlying9
 a9:=isAgg9
 z9:=sizeOf9
 v9:=zeroValue9
 t24:=underlying33
 a24:=isAgg33
 z24:=sizeOf33
 v24:=zeroValue33
 i9:=by kernel_rfl}
open Go.RowKit Go.Lib in
theorem slices_Clone_string(b a n c:Nat)(d:eL)(w:ay)(hz:n<=d.length)(f:n*16<=140737488355328)(i:∀j,j<d.length->w.cell? ⟨b,a+j,none⟩=some (.string (d.getD j ByteArray.empty))):
 Calls prog 62 #[.slice (some ⟨b,a,none⟩) n c] w λe h=> ∃g,e= .returned g/\h.ownsRow w.heap.size 9 1 g n ((d.take n).map (Value.string))/\g≠ .slice none 0 0/\Below w.heap.size w h:=Any.slices_Clone_string laysNm216 b a n c d w hz f i
open Go.RowKit Go.Lib in
theorem slices_Clone_string_nil(n c:Nat)(w:ay):
 Calls prog 62 #[.slice none n c] w λe a=>e= .returned (.slice none 0 0)/\a=w:=Any.slices_Clone_string_nil laysNm216 n c w
end Go.Proofs
namespace Go.Spk
open Go.RowKit
def St(w:World)(g o:Nat)(cs:List Value):Bool->World->Prop
 |false,W=>Below w.heap.size w W
 |true,W=> ∃a,Below w.heap.size w a/\Below a.heap.size (a.setCells g o cs) W
theorem jY(g:Nat):∀(vs:List Value) (o:Nat) (w:World),(w.setCells g o vs).heap.size=w.heap.size
 | [],_,_=>rfl
 |v::vs,o,w=>by rw[World.setCells,jY g vs];simp[World.setCell]
section
variable {P:Program}{ops:Array Oper}{w:World}{g o:Nat}{cs:List Value}
theorem St.start(w:ay)(g o:Nat)(cs:gF):St w g o cs false w.drew:=bA (aw _ w) 1
theorem St.size{s}{W}(h:St w g o cs s W):w.heap.size<=W.heap.size:=by
 cases s with
 |false=>exact Below.size (B:=w.heap.size) h
 |true=>obtain⟨c,a,b⟩:=h;have:=a.size;have:=b.size;rw[jY]at this;omega
theorem St.iC{s}{W W'}(h:St w g o cs s W)(a:Below W.heap.size W W'):St w g o cs s W':=by
 have c:=h.size;cases s with
 |false=>exact Below.trans (B:=w.heap.size) h (a.mono c)
 |true=>
  obtain⟨d,e,b⟩:=h;refine⟨d,e,b.trans (a.mono ?_)⟩;have:=b.size;rw[jY]at this;omega
theorem St.grown{s}{W}(h:St w g o cs s W):w.grownBy W (some g):=by
 cases s with
 |false=>exact bR h _
 |true=>
  obtain⟨a,b,c⟩:=h;have d:=aZ (bR b (some g)) (aG g cs o a);refine aZ d (bR (c.mono ?_) _);rw[jY];exact ak _
theorem St.at_{s}{W}(h:St w g o cs s W){b q}{ds}(c:At w b q ds)(hlt:b<w.heap.size)(a:b≠g):At W b q ds:=
 c.only h.grown hlt (λe=>a (by injection e))
theorem St.other{s}{W}(h:St w g o cs s W){b}{t}{ds}(c:Whole w b t ds)(a:b≠g):Whole W b t ds:=
 c.only h.grown (λe=>a (by injection e))
theorem St.whole{W}(h:St w g o cs true W){t}{pre old post}(b:Whole w g t (pre++old++post).toArray)(d:pre.length=o)(hl:old.length=cs.length):Whole W g t (pre++cs++post).toArray:=by
 obtain⟨f,c,e⟩:=h;have a:=b.inside;have k:=(b.below c a).mid cs pre old post hl;rw[d]at k;exact k.below e (dp c.size)
theorem St.all{W}{new}(h:St w g 0 new.toList true W){t}{old}(a:Whole w g t old)(hl:old.size=new.size):Whole W g t new:=by
 have k:=h.whole (t:=t) (pre:= []) (old:=old.toList) (post:= []) (ek a) rfl (ek hl);simpa using k
theorem fR{s}{q}{a}{W}{v}{f}{args}(h:(execOp a.eval q).run P W= .ok (.enter f args) W)(c:St w g o cs s W)
 (d:Calls P f args W (λe b=>e= .returned v/\Below W.heap.size W b)):q.quietAt P a (St w g o cs s) W v:=by
 unfold Oper.quietAt;rw[h];exact⟨rfl,d.mono λe b ⟨i,j⟩=>⟨i,c.iC j⟩⟩
theorem dK{q}{a}{K}{b}(i:Region.wanted q (yielded ops a.tmps)=true)(f:fg)(x:Operand)(l:q.op= .load f x)
 (e c:Nat) (m:a.eval x= .pointer (some ⟨e,c,none⟩)) (ds:gJ) (d:TypeDesc) (hS:At w e c ds) (hlt:e<w.heap.size) (j:e≠g)
 (n:P.underlying f=some d) (p:d.isRow=true) (r:(P.info? f).map (·.size)=some ds.size) (t:K (a.put q.dst (.agg ds))):
 if Region.wanted q (yielded ops a.tmps)then vN P q a (St w g o cs) K else K b:=by
 refine lG i ⟨.agg ds,λs W k=>aD ?_,t⟩;have h:=yieldsIf_load_mid (P:=P) (ops:=ops) (S:=St w g o cs s) (op:=q) (a:=a) i f x l e c m ds.toList d (λW k=>(k.at_ hS hlt j).1) n p (ek r);rcases h with⟨_,h⟩|⟨h,_⟩
 .simpa using h W k
 .rw[i]at h;cases h
theorem yZ{t}{q}{a}{K}{b}(g:Region.wanted q (yielded ops a.tmps)=true)(e:fg)(x:Operand)(j:q.op= .load e x)
 (f c:Nat) (k:a.eval x= .pointer (some ⟨f,c,none⟩)) (ds:gJ) (d:TypeDesc) (hS:At w f c ds) (hlt:f<w.heap.size)
 (l:P.underlying e=some d) (m:d.isRow=true) (n:(P.info? e).map (·.size)=some ds.size) (o:K (a.put q.dst (.agg ds))):
 if Region.wanted q (yielded ops a.tmps)then vN P q a (Mk w t) K else K b:=by
 refine lG g ⟨.agg ds,λs W i=>aD ?_,o⟩;have h:=yieldsIf_load_mid (P:=P) (ops:=ops) (S:=Mk w t s) (op:=q) (a:=a) g e x j f c k ds.toList d (λW i=>(hS.below (Mk.base i) hlt).1) l m (ek n);rcases h with⟨_,h⟩|⟨h,_⟩
 .simpa using h W i
 .rw[g]at h;cases h
theorem Vy{Q}{q}{a}(e:fg)(x y:Operand)(ds:gJ)(f:cs=ds.toList)
 (h1:Region.wanted q (yielded ops a.tmps)=true) (h:q.dst=none) (i:q.op= .store e x y) (l:a.eval x= .pointer (some ⟨g,o,none⟩)) (m:a.eval y= .agg ds)
 (n:w.there g o ds.size) (hlt:g<w.heap.size) (r:(P.info? e).map (·.size)=some ds.size) (c:ds.all (·.oneCell')=true) (k:Q (a.put none undef) true):jP P ops (St w g o cs) Q [q] a false:=by
 subst f;simp only[jP,h1,if_true];intro W s;have b:Below w.heap.size w W:=s
 have t:W.there g o ds.size:=λj u=>by
  rw[b.cell (p:=⟨g,o+j,none⟩) hlt,b.frozen (p:=⟨g,o+j,none⟩) hlt];exact n j u
 have d:(execOp a.eval q).run P W= .ok .skip (W.setCells g o ds.toList):=by
  unfold execOp;simp only[i,l,m,Sem.run_bind,run_storeAt_mid W g o e ds t r c,Result.andThen_ok,Sem.run_pure]
 rw[d];refine⟨true,⟨W,b,?_⟩,?_⟩
 .have:=aw W.heap.size (W.setCells g o ds.toList);exact this
 .rw[h];exact k
end
section
variable {P:Program}{ops:Array Oper}{md:Region.Mode}
def kg(md:Region.Mode)(ops:Array Oper):Nat->Nat->Array Bool->Bool
 |0,_,_=>true
 |f+1,k,a=>(Region.ready md ops a).contains k&&Region.free md ops a k&&kg md ops f (k+1) (a.setIfInBounds k true)
def tO:Nat->Nat->Array Bool->Array Bool
 |0,_,l=>l
 |f+1,k,l=>tO f (k+1) (l.setIfInBounds k true)
theorem xD{S:Type}{Cl:S->World->Prop}{Q:Act->S->Prop}{g:Nat}{L:Act->S->Prop}(m:Region.noSelect ops=true)(s:S):
 ∀(l:List Oper) (k:Nat) (listed:rX) (a:Act),(∀j,j<l.length->l[j]?=ops[k+j]?)->k+l.length+g=ops.size->
  kg md ops l.length k listed=true->(∀b,L b s->mF P md ops Cl Q g (tO l.length k listed) b s)->jO P ops Cl (λb=>L b s) l a->mF P md ops Cl Q (l.length+g) listed a s
 | [],k,listed,a,_,n,d,e,h=>by
  rw[List.length_nil,aW];exact e a h
 |o::l,k,listed,a,p,n,d,e,h=>by
  have q:ops[k]?=some o:=by simpa using(p 0 bj).symm
  simp only[List.length_cons,kg,Bool.and_eq_true]at d;obtain⟨⟨r,t⟩,f⟩:=d
  have i:∃v,ir P ops Cl o v a/\jO P ops Cl (λb=>L b s) l (a.put o.dst v):=by
   simp only[jO]at h
   by_cases c:Region.wanted o (yielded ops a.tmps)=true
   .rw[aJ c]at h;obtain⟨v,u,w⟩:=h;exact⟨v,.inl ⟨c,u⟩,w⟩
   .rw[aq c]at h;exact⟨undef,.inr ⟨by simpa using c,rfl⟩,h⟩
  obtain⟨v,i,x⟩:=i
  have:=xD m s l (k+1) (listed.setIfInBounds k true) (a.put o.dst v) (λj y=>by have:=p (j+1) (by simp;omega);simpa[Nat.add_assoc,Nat.add_comm 1 j]using this)
   (by simp only[List.length_cons]at n;omega) f e x
  rw[fw,show l.length+1+g=(l.length+g)+1 by omega];exact xB q (mU m) (l.length+g) listed a s (Region.free_spec q t) (ek r) i this
theorem zF{S}{id}{Q}{a}{w}{l:List Oper}(n:Nat)(Cl:S->World->Prop)(s:S)(hm:P.follows .mixedOrders=true)
 (i:(Region.noSelect l.toArray&&decide (n<l.length)&&kg .any l.toArray n 0 (Array.replicate l.length false))=true) (m:Cl s w.drew)
 (h:jO P l.toArray Cl (λd=>mF P .any l.toArray Cl (λa s=> ∀w,Cl s w->Q .normal a w) (l.length -n) (tO n 0 (Array.replicate l.length false)) d s) (l.take n) a):(Code.region id l.toArray true).wp P Q a w:=by
 simp only[Bool.and_eq_true,decide_eq_true_eq]at i;obtain⟨⟨o,q⟩,c⟩:=i;have b:(l.take n).length=n:=by simp;omega
 refine wp_region_any hm (vT (Cl:=Cl) (Q:=λa s=> ∀w,Cl s w->Q .normal a w) (λa s w p h=>h w p) _ _ _ s _ m ?_)
 have H:=xD (P:=P) (md:= .any) (Q:=λa s=> ∀w,Cl s w->Q .normal a w) (ops:=l.toArray) (g:=l.length -n)
  (L:=λd s=>mF P .any l.toArray Cl (λa s=> ∀w,Cl s w->Q .normal a w) (l.length -n) (tO n 0 (Array.replicate l.length false)) d s) o s
  (
   l.take n) 0 (Array.replicate l.length false) a (λj k=>by
   have f:j<n:=by rw[b]at k;exact k
   simp[f]) (by rw[b];simp;omega) (by rw[b];exact c) (λd h=>by rw[b];exact h) h
 rw[b,show n+(l.length -n)=l.length by omega]at H;have e:l.toArray.size=l.length:=bj;rw[e];exact H
theorem vj{listed}(c:listed.size=ops.size)(a:∀i o,ops[i]?=some o-> ∀e∈o.after,Region.binds md e=true->e.on<i)(d:Region.ready md ops listed= []):∀i,i<ops.size->listed.getD i true=true:=by
 intro i
 induction i using Nat.strongRecOn with
 |ind i f=>
  intro b;cases g:listed.getD i true with
  |true=>rfl
  |false=>
   exfalso
   have:i∈Region.ready md ops listed:=dj.2 ⟨g,ops[i],gv b,λe h j=>by
    have k:=a i ops[i] (gv b) e h j;have l:=f e.on k af;have m:e.on<listed.size:=af;simpa[m]using l⟩
   rw[d]at this;cases this
abbrev TV:=Nat->Option (Nat×Bool)
def TV.up(s:TV)(j:Nat)(x:Nat×Bool):TV:=λi=>if i=j then some x else s i
def Jk(w:World)(T:TypeId)(z:Array Value)(cs:Nat->Array Value)(s:TV)(W:World):Prop:=
 Below w.heap.size w W/\(∀j p b,s j=some (p,b)->w.heap.size<=p/\Whole W p T (if b then cs j else z))/\ ∀i j p q b c,i≠j->s i=some (p,b)->s j=some (q,c)->p≠q
theorem Jk.iC{w W W'}{T}{z}{cs}{s}(h:Jk w T z cs s W)(a:Below W.heap.size W W'):Jk w T z cs s W':=
 ⟨h.1.trans (a.mono h.1.size),λj p b e=>⟨(h.2.1 j p b e).1,(h.2.1 j p b e).2.below a (h.2.1 j p b e).2.inside⟩,h.2.2⟩
theorem Jk.start(w:ay)(T:fg)(z:gJ)(cs:Nat->Array Value):Jk w T z cs (λ_=>none) w.drew:=
 ⟨bA (aw _ w) 1,(λj p b e=>by cases e),(λi j p q b c _ e=>by cases e)⟩
def fl(ds:Nat->Tmp)(a:Act)(s:TV):Nat->Act
 |0=>a
 |j+1=>match s j with
  |some (p,_)=>(fl ds a s j).put (some (ds j)) (.pointer (some ⟨p,0,none⟩))
  |none=>fl ds a s j
theorem w7{ds}{a}{s t}(k:Nat)(h:∀j,j<k->(s j).map (·.1)=(t j).map (·.1)):fl ds a s k=fl ds a t k:=by
 induction k with
 |zero=>rfl
 |succ k c=>
  have d:=c (λj g=>h j af);have b:=h k af;simp only[fl,d];cases e:s k<;>cases f:t k<;>simp[e,f]at b⊢;rw[b]
theorem La{ds}{a}{s}(k j p:Nat)(b:Bool)(t:j<k)(l:∀i c,i<k->c<k->ds i=ds c->i=c)(m:s j=none):
 fl ds a (s.up j (p,b)) k=(fl ds a s k).put (some (ds j)) (.pointer (some ⟨p,0,none⟩)):=by
 induction k with
 |zero=>omega
 |succ k n=>
  by_cases e:j=k
  .subst e;have f:fl ds a (s.up j (p,b)) j=fl ds a s j:=w7 j (λi o=>by simp[TV.up,show i≠j by omega]);simp[fl,TV.up,m,f]
  .have f:=n af (λi c o q=>l i c af af);have r:(s.up j (p,b)) k=s k:=by simp[TV.up,show k≠j by omega]
   simp only[fl,f,r];cases s k with
   |none=>rfl
   |some x=>exact vp _ _ _ (λd g h=>by injection g with g;injection h with h;exact e (l j k af af (by rw[g,h])))
theorem OA{ds:Nat->Tmp}{a}{s}(k m:Nat)(h:∀j,j<k->ds j≠m):(fl ds a s k).eval (.tmp m)=a.eval (.tmp m):=by
 induction k with
 |zero=>rfl
 |succ k c=>
  have b:=c (λj d=>h j af);simp only[fl]
  split
  .rw[Act.eval_put_ne _ _ _ _ (h k af),b]
  .exact b
theorem Sk(a:Act)(d:Option Tmp)(v:cH):(a.put d v).tmps.size=a.tmps.size:=by
 cases d<;>simp[Act.put]
theorem Iu{ds}{a}{s}(k:Nat):(fl ds a s k).tmps.size=a.tmps.size:=by
 induction k with
 |zero=>rfl
 |succ k b=>
  simp only[fl]
  split
  .rw[Sk,b]
  .exact b
theorem Oz{ds}{a}{s}(k j p:Nat)(b:Bool)(o:j<k)(f:∀i c,i<k->c<k->ds i=ds c->i=c)(d:ds j<a.tmps.size)(h:s j=some (p,b)):
 (fl ds a s k).eval (.tmp (ds j))= .pointer (some ⟨p,0,none⟩):=by
 induction k with
 |zero=>omega
 |succ k l=>
  by_cases e:j=k
  .subst e;simp only[fl,h];exact Act.eval_put_same _ _ _ (by rw[Iu];exact d)
  .have g:=l af (λi c q m=>f i c af af);simp only[fl]
   split
   .rw[Act.eval_put_ne _ _ _ _ (λn=>e (f j k af af n.symm)),g]
   .exact g
def nH(s:TV):Nat->Nat
 |0=>0
 |j+1=>nH s j+(match s j with|none=>2|some (_,false)=>1|some (_,true)=>0)
theorem IZ{s t}(k:Nat)(h:∀j,j<k->s j=t j):nH s k=nH t k:=by
 induction k with
 |zero=>rfl
 |succ k a=>simp only[nH,a (fun j b=>h j af),h k af]
theorem I0{s}(k j:Nat)(x:Nat×Bool)(g:j<k)(c:(match s j with|none=>2|some (_,false)=>1|some (_,true)=>0)=(match x with|(_,false)=>1|(_,true)=>0)+1):nH (s.up j x) k+1=nH s k:=by
 induction k with
 |zero=>omega
 |succ k d=>
  by_cases e:j=k
  .subst e;have a:nH (s.up j x) j=nH s j:=IZ j (λi h=>by simp[TV.up,show i≠j by omega]);simp only[nH,a,c];obtain⟨p,b⟩:=x;cases b<;>simp[TV.up]
  .have a:=d af;have f:(s.up j x) k=s k:=by simp[TV.up,show k≠j by omega]
   simp only[nH,f];omega
theorem BD{s}(k:Nat)(h:nH s k=0):∀j,j<k-> ∃p,s j=some (p,true):=by
 induction k with
 |zero=>intro j c;omega
 |succ k d=>
  simp only[nH]at h;intro j c
  by_cases e:j=k
  .subst e;rcases a:s j with _|⟨p,b⟩
   .rw[a]at h;simp at h
   .cases b
    .rw[a]at h;simp at h
    .exact⟨p,rfl⟩
  .exact d af j af
def vS(k:Nat)(p:Nat->Nat):TV:=λj=>if j<k then some (p j,true)else none
theorem LD{s}(k:Nat)(h:∀j,j<k-> ∃p,s j=some (p,true)):nH s k=0:=by
 induction k with
 |zero=>rfl
 |succ k a=>
  obtain⟨p,b⟩:=h k af;simp only[nH,a (fun j c=>h j af),b]
structure Xl(n k:Nat)(listed:Array Bool)(s:TV):Prop where
 size:listed.size=n+k+k
 head:∀i,i<n->listed.getD i true=true
 made:∀j,j<k->listed.getD (n+j) true=(s j).isSome
 done:∀j,j<k->listed.getD (n+k+j) true=(match s j with|some (_,true)=>true|_=>false)
 none:∀j,k<=j->s j=none
theorem iM(l:rX)(i j:Nat)(a:i<l.size):(l.setIfInBounds i true).getD j true=if i=j then true else l.getD j true:=by
 by_cases e:i=j
 .subst e;simp[a]
 .rw[aq e];simp[e]
theorem OX{Q}{w}{T}{z}{cs}{ds ms:Nat->Tmp}{a1}(n k:Nat)(U:ops.size=n+k+k)
 (V:∀j,j<k-> ∃o,ops[n+j]?=some o/\o.dst=some (ds j)/\o.guard=none/\ ∀a W,(execOp (Act.eval a) o).run P W= .ok (.value (.pointer (some ⟨W.heap.size,0,none⟩))) (W.alloc (.cells z T)))
 (G:∀j,j<k-> ∃o,ops[n+k+j]?=some o/\o.dst=none/\o.guard=none/\o.op= .store T (.tmp (ds j)) (.tmp (ms j))/\ ∃e∈o.after,Region.binds md e=true/\e.on=n+j)
 (E:∀i o,ops[i]?=some o-> ∀e∈o.after,Region.binds md e=true->e.on<i) (H:∀i j,i<k->j<k->ds i=ds j->i=j) (X:∀j,j<k->ds j<a1.tmps.size) (Y:∀i j,i<k->j<k->ds i≠ms j) (hy:∀j,j<k->a1.eval (.tmp (ms j))= .agg (cs j))
 (hi:∀j,j<k->(P.info? T).map (·.size)=some (cs j).size) (Z:∀j,j<k->z.size=(cs j).size) (I:∀j,j<k->(cs j).all (·.oneCell')=true)
 (hq:∀p,Q (fl ds a1 (vS k p) k) (vS k p)):∀(l:Nat) (listed:rX) (s:TV),Xl n k listed s->nH s k<=l->mF P md ops (Jk w T z cs) Q l listed (fl ds a1 s k) s:=by
 have J:∀s:TV,(∀j,k<=j->s j=none)->nH s k=0->Q (fl ds a1 s k) s:=by
  intro s hn S;have v:=BD k S
  have e:s=vS k (λj=>((s j).map (·.1)).getD 0):=by
   funext j;unfold vS
   by_cases g:j<k
   .obtain⟨p,hp⟩:=v j g;simp[g,hp]
   .simp[g,hn j af]
  rw[e];exact hq _
 have ri:∀(listed:Array Bool) (s:TV) (i:Nat),Xl n k listed s->i∈Region.ready md ops listed->
  (∃j,j<k/\i=n+j/\s j=none)\/(∃j p,j<k/\i=n+k+j/\s j=some (p,false)):=by
  intro listed s i d K;obtain⟨C,oi,L,y⟩:=dj.1 K;have an:i<n+k+k:=by have:=(aT.1 L).1;omega
  by_cases c1:i<n
  .rw[d.head i c1]at C;cases C
  .by_cases c2:i<n+k
   .refine .inl ⟨i -n,af,af,?_⟩;have:=d.made (i -n) af;rw[show n+(i -n)=i by omega,C]at this;cases h:s (i -n)with
    |none=>rfl
    |some x=>rw[h]at this;cases this
   .have g:i -n -k<k:=af;obtain⟨o,F,_,_,_,e,he,hb,ab⟩:=G (i -n -k) g;rw[show n+k+(i -n -k)=i by omega,L]at F;cases F;have v:=y e he hb;rw[ab]at v;have h2:=d.made (i -n -k) g;have h3:n+(i -n -k)<listed.size:=by rw[d.size];omega
    have h4:listed.getD (n+(i -n -k)) true=true:=by simpa[h3]using v
    rw[h4]at h2;have h5:=d.done (i -n -k) g;rw[show n+k+(i -n -k)=i by omega,C]at h5;rcases h:s (i -n -k)with _|⟨p,b⟩
    .rw[h]at h2;cases h2
    .cases b
     .exact .inr ⟨i -n -k,p,g,af,h⟩
     .rw[h]at h5;cases h5
 intro l
 induction l with
 |zero=>
  intro listed s d M;have S:nH s k=0:=af;refine⟨?_,J s d.none S⟩;refine List.eq_nil_iff_forall_not_mem.2 λi K=> ?_;have v:=BD k S;rcases ri listed s i d K with⟨j,g,_,h⟩|⟨j,p,g,_,h⟩<;>obtain⟨q,A⟩:=v j g<;>rw[h]at A<;>cases A
 |succ l ih=>
  intro listed s d M;refine⟨λN=>J s d.none ?_,λi K=> ?_⟩
  .have y:=vj (md:=md) (by rw[d.size,U]) E N;refine LD k λj g=> ?_;have v:=y (n+k+j) af;rw[d.done j g]at v;rcases h:s j with _|⟨p,b⟩
   .rw[h]at v;cases v
   .cases b
    .rw[h]at v;cases v
    .exact⟨p,rfl⟩
  .rcases ri listed s i d K with⟨j,g,rfl,h⟩|⟨j,p,g,rfl,h⟩
   .obtain⟨o,F,hd,hg,B⟩:=V j g;unfold DD;simp only[F];rw[aJ (by unfold Region.wanted;rw[hg])];intro W r;rw[B];refine⟨s.up j (W.heap.size,false),⟨r.1.trans (((aw _ W).alloc (ak _) _).mono r.1.size),?_,?_⟩,?_⟩
    .intro i p b e;unfold TV.up at e
     by_cases c:i=j
     .subst c;rw[aJ rfl]at e;cases e;exact⟨r.1.size,Whole.made W T z⟩
     .rw[aq c]at e;exact⟨(r.2.1 i p b e).1,(r.2.1 i p b e).2.alloc _⟩
    .intro i D p q b c m u t;unfold TV.up at u t
     by_cases c1:i=j
     .subst c1;rw[aJ rfl]at u;rw[aq (gT m)]at t;cases u;have:=(r.2.1 D q c t).2.inside;omega
     .rw[aq c1]at u
      by_cases c2:D=j
      .subst c2;rw[aJ rfl]at t;cases t;have:=(r.2.1 i p b u).2.inside;omega
      .rw[aq c2]at t;exact r.2.2 i D p q b c m u t
    .rw[hd];show mF P md ops (Jk w T z cs) Q l _ ((fl ds a1 s k).put (some (ds j)) (.pointer (some ⟨W.heap.size,0,none⟩))) _;rw[<-La k j W.heap.size false g H h];refine ih _ _ ⟨by simp[d.size],?_,?_,?_,?_⟩ ?_
     .intro i f;rw[iM _ _ _ (by rw[d.size];omega)]
      split
      .rfl
      .exact d.head i f
     .intro i f;rw[iM _ _ _ (by rw[d.size];omega)]
      by_cases c:j=i
      .subst c;simp[TV.up]
      .rw[aq af,d.made i f];simp[TV.up,show i≠j by omega]
     .intro i f;rw[iM _ _ _ (by rw[d.size];omega),aq af,d.done i f]
      by_cases c:i=j
      .subst c;simp[TV.up,h]
      .simp[TV.up,c]
     .intro i f;simp[TV.up,show i≠j by omega,d.none i f]
     .have:=I0 (s:=s) k j (W.heap.size,false) g (by rw[h]);omega
   .obtain⟨o,F,hd,hg,ad,_⟩:=G j g;unfold DD;simp only[F];rw[aJ (by unfold Region.wanted;rw[hg])];intro W r;have hx:=Oz (a:=a1) k j p false g H (X j g) h;have ae:(fl ds a1 s k).eval (.tmp (ms j))= .agg (cs j):=by rw[OA k (ms j) (λi f=>Y i j f g),hy j g]
    obtain⟨aj,O⟩:=r.2.1 j p false h;have hz:=Z j g
    have B:(execOp (fl ds a1 s k).eval o).run P W= .ok .skip (W.setCells p 0 (cs j).toList):=by
     unfold execOp
     simp only[ad,hx,ae,Sem.run_bind,run_storeAt_mid W p 0 T (cs j) (by
      rw [<-hz];exact (At.j O).2) (hi j g) (I j g),Result.andThen_ok,Sem.run_pure]
    rw[B];have R:W.grownBy (W.setCells p 0 (cs j).toList) (some p):=aG _ _ _ _;refine⟨s.up j (p,true),⟨r.1.grown R r.1.size (λq A=>by injection A with A;omega),?_,?_⟩,?_⟩
    .intro i q b e;unfold TV.up at e
     by_cases c:i=j
     .subst c;rw[aJ rfl]at e;cases e;exact⟨aj,O.fill hz.symm⟩
     .rw[aq c]at e;have m:=r.2.2 i j q p b false c e h;exact⟨(r.2.1 i q b e).1,(r.2.1 i q b e).2.only R (λt=>m (by injection t))⟩
    .intro i D q q' b c m u t;unfold TV.up at u t
     by_cases c1:i=j
     .subst c1;rw[aJ rfl]at u;rw[aq (gT m)]at t;cases u;exact r.2.2 i D p q' false c m h t
     .rw[aq c1]at u
      by_cases c2:D=j
      .subst c2;rw[aJ rfl]at t;cases t;exact r.2.2 i D q p b false m u h
      .rw[aq c2]at t;exact r.2.2 i D q q' b c m u t
    .have al:fl ds a1 s k=fl ds a1 (s.up j (p,true)) k:=w7 k (λi _=>by
      unfold TV.up
      by_cases c:i=j
      .subst c;simp[h]
      .simp[c])
     rw[hd];show mF P md ops (Jk w T z cs) Q l _ (fl ds a1 s k) _;rw[al];refine ih _ _ ⟨by simp[d.size],?_,?_,?_,?_⟩ ?_
     .intro i f;rw[iM _ _ _ (by rw[d.size];omega)]
      split
      .rfl
      .exact d.head i f
     .intro i f;rw[iM _ _ _ (by rw[d.size];omega),aq af,d.made i f]
      by_cases c:i=j
      .subst c;simp[TV.up,h]
      .simp[TV.up,c]
     .intro i f;rw[iM _ _ _ (by rw[d.size];omega)]
      by_cases c:j=i
      .subst c;simp[TV.up]
      .rw[aq af,d.done i f];simp[TV.up,show i≠j by omega]
     .intro i f;simp[TV.up,show i≠j by omega,d.none i f]
     .have:=I0 (s:=s) k j (p,true) g (by rw[h]);omega
theorem zj{w}{T}{z}{cs}{s}{q}{a}{W}{v}{f}{args}(h:(execOp a.eval q).run P W= .ok (.enter f args) W)(c:Jk w T z cs s W)
 (d:Calls P f args W (λe b=>e= .returned v/\Below W.heap.size W b)):q.quietAt P a (Jk w T z cs s) W v:=by
 unfold Oper.quietAt;rw[h];exact⟨rfl,d.mono λe b ⟨g,i⟩=>⟨g,c.iC i⟩⟩
theorem IY{w}{T}{z}{cs}{q}{a}{K}{b}(g:Region.wanted q (yielded ops a.tmps)=true)(e:fg)(x:Operand)(j:q.op= .load e x)
 (f c:Nat) (k:a.eval x= .pointer (some ⟨f,c,none⟩)) (ds:gJ) (d:TypeDesc) (hS:At w f c ds) (hlt:f<w.heap.size)
 (l:P.underlying e=some d) (m:d.isRow=true) (n:(P.info? e).map (·.size)=some ds.size) (o:K (a.put q.dst (.agg ds))):
 if Region.wanted q (yielded ops a.tmps)then vN P q a (Jk w T z cs) K else K b:=by
 refine lG g ⟨.agg ds,λs W i=>aD ?_,o⟩;have h:=yieldsIf_load_mid (P:=P) (ops:=ops) (S:=Jk w T z cs s) (op:=q) (a:=a) g e x j f c k ds.toList d (λW i=>(hS.below i.1 hlt).1) l m (ek n);rcases h with⟨_,h⟩|⟨h,_⟩
 .simpa using h W i
 .rw[g]at h;cases h
end
theorem tT{P}{ops}{w}{g o}{cs}{Q}{q}{rest}{a}(e:fg)(x y:Operand)(ds:gJ)(f:cs=ds.toList)
 (h1:Region.wanted q (yielded ops a.tmps)=true) (h:q.dst=none) (i:q.op= .store e x y) (l:a.eval x= .pointer (some ⟨g,o,none⟩)) (m:a.eval y= .agg ds)
 (n:w.there g o ds.size) (hlt:g<w.heap.size) (r:(P.info? e).map (·.size)=some ds.size) (c:ds.all (·.oneCell')=true) (k:jP P ops (St w g o cs) Q rest (a.put none undef) true):jP P ops (St w g o cs) Q (q::rest) a false:=by
 subst f;simp only[jP,h1,if_true];intro W s;have b:Below w.heap.size w W:=s
 have t:W.there g o ds.size:=λj u=>by
  rw[b.cell (p:=⟨g,o+j,none⟩) hlt,b.frozen (p:=⟨g,o+j,none⟩) hlt];exact n j u
 have d:(execOp a.eval q).run P W= .ok .skip (W.setCells g o ds.toList):=by
  unfold execOp;simp only[i,l,m,Sem.run_bind,run_storeAt_mid W g o e ds t r c,Result.andThen_ok,Sem.run_pure]
 rw[d];exact⟨true,⟨W,b,aw W.heap.size (W.setCells g o ds.toList)⟩,by rw[h];exact k⟩
theorem tU{P}{ops}{S}{Cl}{Q}{q}{rest}{a}{s:S}(v:cH)(h1:Region.wanted q (yielded ops a.tmps)=true)
 (hv:∀W,(execOp a.eval q).run P W= .ok (.value v) W) (k:jP P ops Cl Q rest (a.put q.dst v) s):jP P ops Cl Q (q::rest) a s:=by
 simp only[jP,h1,if_true];intro W b;rw[hv W];exact⟨s,b,k⟩
theorem tP{P}{ops}{S}{Cl}{Q}{a}{s:S}(k:Q a s):jP P ops Cl Q [] a s:=k
theorem At.field{w}{g}{T}{k}{pre ws post}{o}(h:Whole w g T (ai k (pre++ws++post)))(b:pre.length=o):At w g o (ai k ws):=by
 subst b;refine At.part h _ _ λj a=> ?_;rw[ag]at a;rw[iP k ws j a,iP k _ _ (by simp;omega)];congr 2;unfold ix;rw[bV,bV,bf,qY af,jb af];simp
section
variable {P:Program}{ops:Array Oper}{md:Region.Mode}{C:World->Prop}
def Ep(n:Nat)(listed:Array Bool):Bool:=(List.range n).all λi=>listed.getD i true
theorem rA{n}{listed}:Ep n listed=true↔ ∀i,i<n->listed.getD i true=true:=by
 simp[Ep]
def cOp(P:Program)(ops:Array Oper)(C:World->Prop)(i:Nat)(K:Act->Prop)(a:Act):Prop:=
 ∃o v,ops[i]?=some o/\ir P ops (λ_:Unit=>C) o v a/\K (a.put o.dst v)
def yD(P:Program)(md:Region.Mode)(ops:Array Oper)(C:World->Prop)(n:Nat)(L:Act->Prop):Nat->Array Bool->Act->Prop
 |0,b,a=>Ep n b=true/\L a
 |f+1,b,a=>(Ep n b=true->L a)/\(Ep n b=false-> ∀i∈Region.ready md ops b,cOp P ops C i (yD P md ops C n L f (b.setIfInBounds i true)) a)
def L3(md:Region.Mode)(ops:Array Oper):Bool:=
 (List.range ops.size).all λt=>((ops[t]?).map λo=>o.after.all λe=>decide (e.on<t)|| !Region.binds md e).getD true
theorem Ar(h:L3 md ops=true):∀i o,ops[i]?=some o-> ∀e∈o.after,Region.binds md e=true->e.on<i:=by
 intro i o b e d f;have g:i<ops.size:=(aT.1 b).1;have a:=fX.1 h i (ek g);rw[b]at a;simp only[Option.map_some,Option.getD_some,Array.all_eq_true]at a;obtain⟨k,j,rfl⟩:=Array.getElem_of_mem d;have c:=a k j;rw[f]at c;simpa using c
theorem PZ{i}{K b}{a}(h:∀a,K a->b a)(c:cOp P ops C i K a):cOp P ops C i b a:=by
 obtain⟨o,v,d,e,f⟩:=c;exact⟨o,v,d,e,h _ f⟩
theorem Um{j}{c d}{v}(l:ops[j]?=some d)(e:c.apart ops d=true)
 (f:∀g b,c.op≠ .select g b) (i:∀g b,d.op≠ .select g b) {K} {a}
 (r:ir P ops (λ_:Unit=>C) c v a) (h:cOp P ops C j K (a.put c.dst v)):
 cOp P ops C j (λm=>ir P ops (λ_:Unit=>C) c v m/\K (m.put c.dst v)) a:=by
 obtain⟨n,s,p⟩:=jZ e;obtain⟨o,u,q,k,t⟩:=h;rw[l]at q;cases q;have w:execOp (a.put c.dst v).eval d=execOp a.eval d:=execOp_put d i a c.dst v n;have x:Region.wanted d (yielded ops (a.put c.dst v).tmps)=Region.wanted d (yielded ops a.tmps):=wanted_put d a c.dst v n;refine⟨d,u,l,k.of_same w.symm x.symm,r.of_same (execOp_put c f a d.dst u p) (wanted_put c a d.dst u p),?_⟩;rw[<-vp a v u s];exact t
def tg(listed:Array Bool):Nat->Nat
 |0=>0
 |k+1=>tg listed k+if listed.getD k true then 0 else 1
theorem NO{listed}{n}:tg listed n=0-> ∀i,i<n->listed.getD i true=true:=by
 induction n with
 |zero=>intro _ i a;omega
 |succ n b=>
  intro h i a;simp only[tg]at h
  by_cases e:i=n
  .subst e;cases c:listed.getD i true with
   |true=>rfl
   |false=>rw[c]at h;simp at h
  .exact b af i af
theorem Qi{listed}{n}:tg listed n≠0-> ∃i,i<n/\listed.getD i true=false:=by
 induction n with
 |zero=>intro h;exact absurd rfl h
 |succ n b=>
  intro h;cases a:listed.getD n true with
  |false=>exact⟨n,af,a⟩
  |true=>
   simp only[tg,a,if_true,Nat.add_zero]at h;obtain⟨i,d,c⟩:=b h;exact⟨i,af,c⟩
theorem NM{l a}{n}(h:∀i,i<n->l.getD i true=a.getD i true):tg l n=tg a n:=by
 induction n with
 |zero=>rfl
 |succ n b=>simp only[tg,b (fun i c=>h i af),h n af]
theorem Qj{listed}{n i}(d:i<n)(a:i<listed.size)(hl:listed.getD i true=false):tg (listed.setIfInBounds i true) n+1=tg listed n:=by
 induction n with
 |zero=>omega
 |succ n c=>
  by_cases e:i=n
  .subst e;have b:tg (listed.setIfInBounds i true) i=tg listed i:=NM λj f=>by rw[iM _ _ _ a,aq af]
   simp only[tg,b,hl,iM _ _ _ a,if_true];simp
  .have b:=c af;simp only[tg,iM _ _ _ a,if_neg e];omega
def DJ(m n:Nat):Array Bool:=(List.replicate n true++List.replicate (m -n) false).toArray
end
def pF:Nat:=57896044618658097711785492504343953926634992332820282019728792003956564819949
def Ds(a:List Int):Int:=ix a 0+ix a 1*2251799813685248+ix a 2*5070602400912917605986812821504+ix a 3*11417981541647679048466287755595961091061972992+ix a 4*25711008708143844408671393477458601640355247900524685364822016
structure Fe(a:List Int)(x:Nat):Prop where
 len:a.length=5
 lo:∀i,0<=ix a i
 hi:∀i,ix a i<2251799813816320
 val:Ds a %57896044618658097711785492504343953926634992332820282019728792003956564819949=x
theorem Fe.lt{a}{x}(h:Fe a x):x<pF:=by
 have:=h.val;unfold pF;omega
theorem qa{a:aR}(h:a.length=5):∃b c d e f,a= [b,c,d,e,f]:=by
 match a,h with
 | [b,c,d,e,f],_=>exact⟨b,c,d,e,f,rfl⟩
theorem E3(a a1 b c d:Int):ix [a,a1,b,c,d] 0=a/\ix [a,a1,b,c,d] 1=a1/\ix [a,a1,b,c,d] 2=b/\ix [a,a1,b,c,d] 3=c/\ix [a,a1,b,c,d] 4=d:=⟨rfl,rfl,rfl,rfl,rfl⟩
theorem va{a a1 b c d:Int}{x:Nat}(e:0<=a/\a<2251799813816320)(h1:0<=a1/\a1<2251799813816320)(f:0<=b/\b<2251799813816320)(g:0<=c/\c<2251799813816320)(h:0<=d/\d<2251799813816320)
 (hv:(a+a1*2251799813685248+b*5070602400912917605986812821504+c*11417981541647679048466287755595961091061972992+d*25711008708143844408671393477458601640355247900524685364822016) %57896044618658097711785492504343953926634992332820282019728792003956564819949=x):Fe [a,a1,b,c,d] x:=by
 have key:∀i,0<=ix [a,a1,b,c,d] i/\ix [a,a1,b,c,d] i<2251799813816320:=by
  intro i
  match i with
  |0=>exact e
  |1=>exact h1
  |2=>exact f
  |3=>exact g
  |4=>exact h
  |n+5=>exact⟨by simp[ix],by simp[ix]⟩
 exact⟨rfl,λi=>(key i).1,λi=>(key i).2,hv⟩
def dG(a:List Int):Nat->Int
 |0=>0
 |k+1=>(ix a k+dG a k)/2251799813685248
def iz(a:List Int):Nat->List Int
 |0=>a
 |k+1=>(iz a k).set k ((ix a k+dG a k) %2251799813685248)
def bU(a:List Int):List Int:=(iz a 5).set 0 (ix (iz a 5) 0+dG a 5*19)
theorem qM(a:aR)(k:Nat):(iz a k).length=a.length:=by
 induction k with
 |zero=>rfl
 |succ k b=>rw[iz,dx,b]
theorem L7(a:aR)(k:Nat)(c:k<=a.length)(j:Nat)(d:k<=j):ix (iz a k) j=ix a j:=by
 induction k with
 |zero=>rfl
 |succ k b=>
  rw[iz,lW _ _ _ _ (by rw[qM];omega),aq af,b af af]
theorem L6(a:aR)(h:∀i,0<=ix a i/\ix a i<9223372036854775808)(k:Nat):0<=dG a k/\dG a k<=4096:=by
 induction k with
 |zero=>show(0:Int)<=0/\(0:Int)<=4096;omega
 |succ k b=>rw[dG];have:=h k;omega
theorem wl{a}(hl:a.length=5)(h:∀i,0<=ix a i/\ix a i<9223372036854775808):Fe (bU a) (Ds a %57896044618658097711785492504343953926634992332820282019728792003956564819949).toNat:=by
 obtain⟨b,c,d,f,g,rfl⟩:=qa hl;have j:=h 0;have k:=h 1;have l:=h 2;have m:=h 3;have n:=h 4;simp only[E3]at j k l m n;have e:bU [b,c,d,f,g]= [(b+0) %2251799813685248+dG [b,c,d,f,g] 5*19,(c+dG [b,c,d,f,g] 1) %2251799813685248,(d+dG [b,c,d,f,g] 2) %2251799813685248,(f+dG [b,c,d,f,g] 3) %2251799813685248,(g+dG [b,c,d,f,g] 4) %2251799813685248]:=rfl;rw[e];have c1:dG [b,c,d,f,g] 1=(b+0)/2251799813685248:=rfl;have c2:dG [b,c,d,f,g] 2=(c+dG [b,c,d,f,g] 1)/2251799813685248:=rfl;have c3:dG [b,c,d,f,g] 3=(d+dG [b,c,d,f,g] 2)/2251799813685248:=rfl;have c4:dG [b,c,d,f,g] 4=(f+dG [b,c,d,f,g] 3)/2251799813685248:=rfl;have c5:dG [b,c,d,f,g] 5=(g+dG [b,c,d,f,g] 4)/2251799813685248:=rfl;have o:Ds [b,c,d,f,g]=b+c*2251799813685248+d*5070602400912917605986812821504+f*11417981541647679048466287755595961091061972992+g*25711008708143844408671393477458601640355247900524685364822016:=rfl;refine va ?_ ?_ ?_ ?_ ?_ ?_
 all_goals(try omega)
theorem Fe.vX{a}{x}(h:Fe a x)(i:Nat):0<=ix a i/\ix a i<9223372036854775808:=by
 have:=h.lo i;have:=h.hi i;omega
theorem kq{a}{x}(h:Fe a x):Fe (bU a) x:=by
 have:=wl h.len h.vX;rw[h.val]at this;simpa using this
def o8(a b:List Int):List Int:= [ix a 0+ix b 0,ix a 1+ix b 1,ix a 2+ix b 2,ix a 3+ix b 3,ix a 4+ix b 4]
theorem tu{a b}{x y}(c:Fe a x)(d:Fe b y):Fe (bU (o8 a b)) ((x+y) %pF):=by
 have k:=wl (a:=o8 a b) rfl (λi=>by
  match i with
  |0=>have:=c.vX 0;have:=c.hi 0;have:=d.vX 0;have:=d.hi 0;show 0<=ix a 0+ix b 0/\ix a 0+ix b 0<_;omega
  |1=>have:=c.vX 1;have:=c.hi 1;have:=d.vX 1;have:=d.hi 1;show 0<=ix a 1+ix b 1/\ix a 1+ix b 1<_;omega
  |2=>have:=c.vX 2;have:=c.hi 2;have:=d.vX 2;have:=d.hi 2;show 0<=ix a 2+ix b 2/\ix a 2+ix b 2<_;omega
  |3=>have:=c.vX 3;have:=c.hi 3;have:=d.vX 3;have:=d.hi 3;show 0<=ix a 3+ix b 3/\ix a 3+ix b 3<_;omega
  |4=>have:=c.vX 4;have:=c.hi 4;have:=d.vX 4;have:=d.hi 4;show 0<=ix a 4+ix b 4/\ix a 4+ix b 4<_;omega
  |n+5=>exact⟨by simp[ix,o8],by simp[ix,o8]⟩)
 have e:Ds (o8 a b)=Ds a+Ds b:=by
  show ix a 0+ix b 0+(ix a 1+ix b 1)*_+(ix a 2+ix b 2)*_+(ix a 3+ix b 3)*_+(ix a 4+ix b 4)*_=_;unfold Ds;omega
 have g:=c.val;have h:=d.val;rw[e]at k
 have f:((Ds a+Ds b) %57896044618658097711785492504343953926634992332820282019728792003956564819949).toNat=(x+y) %pF:=by
  unfold pF;omega
 rwa[f]at k
def ed(a b:List Int):Nat->List Int
 |0=> [0,0,0,0,0]
 |n+1=>(ed a b n).set ((n/5+n %5) %5) (ix (ed a b n) ((n/5+n %5) %5)+(if n/5+n %5<5 then ix a (n/5)else ix a (n/5)*19)*ix b (n %5))
theorem lJ(a b:aR)(n:Nat):(ed a b n).length=5:=by
 induction n with
 |zero=>rfl
 |succ n c=>rw[ed,dx,c]
theorem Zb{p q P Q:Int}(a:0<=p)(b:p<=P)(hq:0<=q)(c:q<=Q):0<=p*q/\p*q<=P*Q:=
 ⟨Int.mul_nonneg a hq,Int.mul_le_mul b c hq (Int.le_trans a b)⟩
def uk(a b:List Int)(n:Nat):Int:=(if n/5+n %5<5 then ix a (n/5)else ix a (n/5)*19)*ix b (n %5)
theorem IU{a b}{x y}(c:Fe a x)(d:Fe b y)(n:Nat):0<=uk a b n/\uk a b n<=96341445628561054910891268505600:=by
 have f:=c.lo (n/5);have g:=c.hi (n/5);have e:=d.lo (n %5);have h:=d.hi (n %5);have k:=Zb (p:=if n/5+n %5<5 then ix a (n/5)else ix a (n/5)*19) (q:=ix b (n %5)) (P:=42784196462510080) (Q:=2251799813816320) (by split<;>omega) (by split<;>omega) e af;unfold uk;omega
theorem w6{a b}{x y}(c:Fe a x)(d:Fe b y)(n:Nat)(i:Nat):0<=ix (ed a b n) i/\ix (ed a b n) i<=n*96341445628561054910891268505600:=by
 induction n with
 |zero=>
  rw[ed]
  match i with
  |0=>exact⟨o4 _,o4 _⟩
  |1=>exact⟨o4 _,o4 _⟩
  |2=>exact⟨o4 _,o4 _⟩
  |3=>exact⟨o4 _,o4 _⟩
  |4=>exact⟨o4 _,o4 _⟩
  |i+5=>exact⟨by simp[ix],by simp[ix]⟩
 |succ n g=>
  have f:=IU c d n;rw[ed,lW _ _ _ _ (by rw[lJ];omega)]
  split
  .rename_i e;subst e;unfold uk at f;omega
  .omega
def mulL(a b:List Int):List Int:=
 let S:=ed a b 25
 let o:=iz S 5
 let d:=dG S 5*19+ix o 0
 bU [d %2251799813685248,ix o 1+d/2251799813685248,ix o 2,ix o 3,ix o 4]
theorem JZ(a a1 b c d:Int):Ds [a,a1,b,c,d]=a+a1*2251799813685248+b*5070602400912917605986812821504+c*11417981541647679048466287755595961091061972992+d*25711008708143844408671393477458601640355247900524685364822016:=rfl
theorem Si(i a1 f c a j h g d b:Int):∃k:Int,Ds (ed [i,a1,f,c,a] [j,h,g,d,b] 25)=Ds [i,a1,f,c,a]*Ds [j,h,g,d,b]+57896044618658097711785492504343953926634992332820282019728792003956564819949*k:=by
 have e:ed [i,a1,f,c,a] [j,h,g,d,b] 25= [0+i*j+a1*19*b+f*19*d+c*19*g+a*19*h,0+i*h+a1*j+f*19*b+c*19*d+a*19*g,0+i*g+a1*h+f*j+c*19*b+a*19*d,0+i*d+a1*g+f*h+c*j+a*19*b,0+i*b+a1*d+f*g+c*h+a*j]:=al;rw[e,JZ,JZ,JZ];refine⟨-((a1*b+f*d+c*g+a*h)+(f*b+c*d+a*g)*2251799813685248+(c*b+a*d)*5070602400912917605986812821504+a*b*11417981541647679048466287755595961091061972992),?_⟩
 grind
theorem dy{a b:aR}{x y:Nat}(g:Fe a x)(h:Fe b y):Fe (mulL a b) (x*y %pF):=by
 have f:=w6 g h 25;have q:=lJ a b 25
 have r:∃k:Int,Ds (ed a b 25)=Ds a*Ds b+57896044618658097711785492504343953926634992332820282019728792003956564819949*k:=by
  obtain⟨B,C,D,E,F,rfl⟩:=qa g.len;obtain⟨G,H,I,J,K,rfl⟩:=qa h.len;exact Si _ _ _ _ _ _ _ _ _ _
 show Fe (bU [(dG (ed a b 25) 5*19+ix (iz (ed a b 25) 5) 0) %2251799813685248,ix (iz (ed a b 25) 5) 1+(dG (ed a b 25) 5*19+ix (iz (ed a b 25) 5) 0)/2251799813685248,ix (iz (ed a b 25) 5) 2,ix (iz (ed a b 25) 5) 3,ix (iz (ed a b 25) 5) 4]) _;generalize ed a b 25=S at*;obtain⟨s0,s1,s2,s3,c,rfl⟩:=qa q;have s:=f 0;have t:=f 1;have u:=f 2;have v:=f 3;have w:=f 4;simp only[E3]at s t u v w;have e:iz [s0,s1,s2,s3,c] 5= [(s0+0) %2251799813685248,(s1+dG [s0,s1,s2,s3,c] 1) %2251799813685248,(s2+dG [s0,s1,s2,s3,c] 2) %2251799813685248,(s3+dG [s0,s1,s2,s3,c] 3) %2251799813685248,(c+dG [s0,s1,s2,s3,c] 4) %2251799813685248]:=rfl;rw[e];have c1:dG [s0,s1,s2,s3,c] 1=(s0+0)/2251799813685248:=rfl;have c2:dG [s0,s1,s2,s3,c] 2=(s1+dG [s0,s1,s2,s3,c] 1)/2251799813685248:=rfl;have c3:dG [s0,s1,s2,s3,c] 3=(s2+dG [s0,s1,s2,s3,c] 2)/2251799813685248:=rfl;have c4:dG [s0,s1,s2,s3,c] 4=(s3+dG [s0,s1,s2,s3,c] 3)/2251799813685248:=rfl;have c5:dG [s0,s1,s2,s3,c] 5=(c+dG [s0,s1,s2,s3,c] 4)/2251799813685248:=rfl;generalize dG [s0,s1,s2,s3,c] 1=j at*;generalize dG [s0,s1,s2,s3,c] 2=l at*;generalize dG [s0,s1,s2,s3,c] 3=m at*;generalize dG [s0,s1,s2,s3,c] 4=o at*;generalize dG [s0,s1,s2,s3,c] 5=d at*;rw[JZ]at r;have z:=g.val;have A:=h.val
 have L:(Ds a*Ds b) %57896044618658097711785492504343953926634992332820282019728792003956564819949=((x*y %pF:Nat):Int):=by
  rw[Int.mul_emod,z,A,Int.natCast_emod,Int.natCast_mul];rfl
 have p:=wl (a:= [(d*19+(s0+0) %2251799813685248) %2251799813685248,(s1+j) %2251799813685248+(d*19+(s0+0) %2251799813685248)/2251799813685248,(s2+l) %2251799813685248,(s3+m) %2251799813685248,(c+o) %2251799813685248]) rfl (λi=>by
  match i with
  |0=>show 0<=(d*19+(s0+0) %2251799813685248) %2251799813685248/\(d*19+(s0+0) %2251799813685248) %2251799813685248<_;omega
  |1=>show 0<=(s1+j) %2251799813685248+(d*19+(s0+0) %2251799813685248)/2251799813685248/\(s1+j) %2251799813685248+(d*19+(s0+0) %2251799813685248)/2251799813685248<_;omega
  |2=>show 0<=(s2+l) %2251799813685248/\(s2+l) %2251799813685248<_;omega
  |3=>show 0<=(s3+m) %2251799813685248/\(s3+m) %2251799813685248<_;omega
  |4=>show 0<=(c+o) %2251799813685248/\(c+o) %2251799813685248<_;omega
  |n+5=>exact⟨by simp[ix],by simp[ix]⟩)
 rw[JZ]at p;rw[show x*y %pF=_ from ?_]
 .exact p
 .omega
def mY(a b:List Int):List Int:=
 [ix a 0+4503599627370458 -ix (bU b) 0,ix a 1+4503599627370494 -ix (bU b) 1,ix a 2+4503599627370494 -ix (bU b) 2,ix a 3+4503599627370494 -ix (bU b) 3,ix a 4+4503599627370494 -ix (bU b) 4]
theorem pq{a b:aR}{x y:Nat}(c:Fe a x)(s:Fe b y):Fe (bU (mY a b)) ((x+(pF -y)) %pF):=by
 have e:=kq s;unfold mY;generalize bU b=d at*;have v:=c.lo 0;have w:=c.lo 1;have z:=c.lo 2;have A:=c.lo 3;have B:=c.lo 4;have C:=c.hi 0;have D:=c.hi 1;have E:=c.hi 2;have F:=c.hi 3;have G:=c.hi 4;have c0:=e.lo 0;have c1:=e.lo 1;have c2:=e.lo 2;have c3:=e.lo 3;have c4:=e.lo 4;have H:=e.hi 0;have I:=e.hi 1;have J:=e.hi 2;have K:=e.hi 3;have L:=e.hi 4;have t:=c.val;have u:=e.val;unfold Ds at t u;generalize ix a 0=f at*;generalize ix a 1=g at*;generalize ix a 2=h at*;generalize ix a 3=j at*;generalize ix a 4=k at*;generalize ix d 0=l at*;generalize ix d 1=m at*;generalize ix d 2=o at*;generalize ix d 3=p at*;generalize ix d 4=q at*
 have r:=wl (a:= [f+4503599627370458 -l,g+4503599627370494 -m,h+4503599627370494 -o,j+4503599627370494 -p,k+4503599627370494 -q]) rfl (λi=>by
  match i with
  |0=>show 0<=f+4503599627370458 -l/\f+4503599627370458 -l<_;omega
  |1=>show 0<=g+4503599627370494 -m/\g+4503599627370494 -m<_;omega
  |2=>show 0<=h+4503599627370494 -o/\h+4503599627370494 -o<_;omega
  |3=>show 0<=j+4503599627370494 -p/\j+4503599627370494 -p<_;omega
  |4=>show 0<=k+4503599627370494 -q/\k+4503599627370494 -q<_;omega
  |n+5=>exact⟨by simp[ix],by simp[ix]⟩)
 rw[JZ]at r;rw[show(x+(pF -y)) %pF=_ from ?_]
 .exact r
 .unfold pF at*;omega
def fB(x:Nat):List Int:= [((x %2251799813685248:Nat):Int),((x/2251799813685248 %2251799813685248:Nat):Int),((x/2251799813685248/2251799813685248 %2251799813685248:Nat):Int),((x/2251799813685248/2251799813685248/2251799813685248 %2251799813685248:Nat):Int),((x/2251799813685248/2251799813685248/2251799813685248/2251799813685248:Nat):Int)]
def o3(b:List Int):Nat->Int
 |0=>19
 |k+1=>(ix b k+o3 b k)/2251799813685248
def E8(a:List Int):List Int:=
 let b:=bU (bU a)
 iz (b.set 0 (ix b 0+o3 b 5*19)) 5
theorem NE{a a1 b c d}(k:0<=a/\a<2251799813816320)(h1:0<=a1/\a1<2251799813816320)(l:0<=b/\b<2251799813816320)(m:0<=c/\c<2251799813816320)(n:0<=d/\d<2251799813816320):
 ∃f g h i j,bU [a,a1,b,c,d]= [f,g,h,i,j]/\(0<=f/\f<2251799813685248+38)/\(0<=g/\g<2251799813685248)/\(0<=h/\h<2251799813685248)/\(0<=i/\i<2251799813685248)/\(0<=j/\j<2251799813685248):=by
 have e:bU [a,a1,b,c,d]= [(a+0) %2251799813685248+dG [a,a1,b,c,d] 5*19,(a1+dG [a,a1,b,c,d] 1) %2251799813685248,(b+dG [a,a1,b,c,d] 2) %2251799813685248,(c+dG [a,a1,b,c,d] 3) %2251799813685248,(d+dG [a,a1,b,c,d] 4) %2251799813685248]:=rfl;have c1:dG [a,a1,b,c,d] 1=(a+0)/2251799813685248:=rfl;have c2:dG [a,a1,b,c,d] 2=(a1+dG [a,a1,b,c,d] 1)/2251799813685248:=rfl;have c3:dG [a,a1,b,c,d] 3=(b+dG [a,a1,b,c,d] 2)/2251799813685248:=rfl;have c4:dG [a,a1,b,c,d] 4=(c+dG [a,a1,b,c,d] 3)/2251799813685248:=rfl;have c5:dG [a,a1,b,c,d] 5=(d+dG [a,a1,b,c,d] 4)/2251799813685248:=rfl;refine⟨_,_,_,_,_,e,?_,?_,?_,?_,?_⟩
 all_goals omega
theorem xw(P b N:Int)(a:0<N):(b+P/N)/2251799813685248=(P+b*N)/(N*2251799813685248):=by
 rw[<-Int.ediv_ediv_of_nonneg (Int.le_of_lt a),Int.add_mul_ediv_right _ _ (Int.ne_of_gt a),Int.add_comm b]
theorem Rk{a:aR}{x:Nat}(h:Fe a x):E8 a=fB x:=by
 have j:=kq (kq h);have i:=kq h;obtain⟨G,H,I,J,K,v⟩:=qa i.len;have k:=i.lo 0;have l:=i.lo 1;have m:=i.lo 2;have n:=i.lo 3;have o:=i.lo 4;have p:=i.hi 0;have q:=i.hi 1;have r:=i.hi 2;have s:=i.hi 3;have u:=i.hi 4;unfold E8;rw[v]at j k l m n o p q r s u⊢;simp only[E3]at k l m n o p q r s u;obtain⟨b,c,d,f,g,w,k0,k1,L,M,N⟩:=NE ⟨k,p⟩ ⟨l,q⟩ ⟨m,r⟩ ⟨n,s⟩ ⟨o,u⟩;rw[w]at j⊢;have y:=j.val;have z:=j.lt;rw[JZ]at y;clear j i h w v k l m n o p q r s u;show iz ([b,c,d,f,g].set 0 (b+o3 [b,c,d,f,g] 5*19)) 5=_;have A:o3 [b,c,d,f,g] 1=(b+19)/2251799813685248:=rfl;have B:o3 [b,c,d,f,g] 2=(c+o3 [b,c,d,f,g] 1)/2251799813685248:=rfl;have C:o3 [b,c,d,f,g] 3=(d+o3 [b,c,d,f,g] 2)/2251799813685248:=rfl;have D:o3 [b,c,d,f,g] 4=(f+o3 [b,c,d,f,g] 3)/2251799813685248:=rfl;have F:o3 [b,c,d,f,g] 5=(g+o3 [b,c,d,f,g] 4)/2251799813685248:=rfl;generalize o3 [b,c,d,f,g] 5=t at*;have E:[b,c,d,f,g].set 0 (b+t*19)= [b+t*19,c,d,f,g]:=rfl;rw[E];have e:iz [b+t*19,c,d,f,g] 5= [(b+t*19+0) %2251799813685248,(c+dG [b+t*19,c,d,f,g] 1) %2251799813685248,(d+dG [b+t*19,c,d,f,g] 2) %2251799813685248,(f+dG [b+t*19,c,d,f,g] 3) %2251799813685248,(g+dG [b+t*19,c,d,f,g] 4) %2251799813685248]:=rfl;rw[e];have c1:dG [b+t*19,c,d,f,g] 1=(b+t*19+0)/2251799813685248:=rfl;have c2:dG [b+t*19,c,d,f,g] 2=(c+dG [b+t*19,c,d,f,g] 1)/2251799813685248:=rfl;have c3:dG [b+t*19,c,d,f,g] 3=(d+dG [b+t*19,c,d,f,g] 2)/2251799813685248:=rfl;have c4:dG [b+t*19,c,d,f,g] 4=(f+dG [b+t*19,c,d,f,g] 3)/2251799813685248:=rfl;generalize dG [b+t*19,c,d,f,g] 1=O at*;generalize dG [b+t*19,c,d,f,g] 2=P at*;generalize dG [b+t*19,c,d,f,g] 3=Q at*;generalize dG [b+t*19,c,d,f,g] 4=R at*;generalize o3 [b,c,d,f,g] 1=A at*;generalize o3 [b,c,d,f,g] 2=B at*;generalize o3 [b,c,d,f,g] 3=C at*;generalize o3 [b,c,d,f,g] 4=D at*;clear e E;unfold pF at z
 have S:t=(b+c*2251799813685248+d*5070602400912917605986812821504+f*11417981541647679048466287755595961091061972992+g*25711008708143844408671393477458601640355247900524685364822016+19)/57896044618658097711785492504343953926634992332820282019728792003956564819968:=by
  clear y z c1 c2 c3 c4;have u2:=xw (b+19) c 2251799813685248 an;have u3:=xw (b+19+c*2251799813685248) d 5070602400912917605986812821504 an;have u4:=xw (b+19+c*2251799813685248+d*5070602400912917605986812821504) f 11417981541647679048466287755595961091061972992 an;have u5:=xw (b+19+c*2251799813685248+d*5070602400912917605986812821504+f*11417981541647679048466287755595961091061972992) g 25711008708143844408671393477458601640355247900524685364822016 an;rw[<-A,<-B]at u2;rw[show(2251799813685248:Int)*2251799813685248=5070602400912917605986812821504 from by decide]at u2;rw[<-u2,<-C,show(5070602400912917605986812821504:Int)*2251799813685248=11417981541647679048466287755595961091061972992 from by decide]at u3;rw[<-u3,<-D,show(11417981541647679048466287755595961091061972992:Int)*2251799813685248=25711008708143844408671393477458601640355247900524685364822016 from by decide]at u4;rw[<-u4,<-F,show(25711008708143844408671393477458601640355247900524685364822016:Int)*2251799813685248=57896044618658097711785492504343953926634992332820282019728792003956564819968 from by decide]at u5;rw[u5];congr 1;omega
 have U:(x:Int)=b+c*2251799813685248+d*5070602400912917605986812821504+f*11417981541647679048466287755595961091061972992+g*25711008708143844408671393477458601640355247900524685364822016 -t*57896044618658097711785492504343953926634992332820282019728792003956564819949/\(t=0\/t=1):=by
  omega
 unfold fB;congr 1
 .omega
 congr 1
 .omega
 congr 1
 .omega
 congr 1
 .omega
 congr 1;omega
theorem DG{x y}(h:fB x=fB y):x=y:=by
 unfold fB at h;simp only[List.cons.injEq,and_true]at h;omega
theorem Ht{x}(h:x<pF):Fe (fB x) x:=by
 unfold pF at h;refine va ?_ ?_ ?_ ?_ ?_ ?_
 all_goals omega
section
variable {P:Program}{t e:TypeId}{n:Nat}{k k':IntKind}
theorem xe(b:∀w,(isAgg e).run P w= .ok false w)(a:aR)(i:Nat)(c:i<a.length)(w:ay):(part e (ai k a) (i*1)).run P w= .ok (.int k (ix a i)) w:=by
 unfold part;simp only[Sem.run_bind,b,Result.andThen_ok,Nat.mul_one,iP k a i c]
 rfl
theorem rQ(o:∀w,(isAgg e).run P w= .ok false w)(p:∀w,(sizeOf e).run P w= .ok 1 w)(q:P.underlying t=some (.array n e))(he:P.underlying e=some (.int k'))
 (a b:aR) (B:a.length=n) (C:b.length=n) (d:Nat) (w:ay):(Op.equalIn (d+2) t (.agg (ai k a)) (.agg (ai k b))).run P w= .ok (decide (a=b)) w:=by
 have r:∀(x y:Int) (w:World),(Op.equalIn (d+1) e (.int k x) (.int k y)).run P w= .ok (x==y) w:=λx y w=>run_equalIn_int w d e k k' x y he;rw[show d+2=(d+1)+1 from rfl];generalize d+1=D at*
 have key:∀(m s:Nat),s+m=n->(forIn (List.range' s m) ((none,()):Option Bool×Unit) λi __s=>do
  let __do_lift<-part e (ai k a) (i*1)
  let __do_lift_1<-part e (ai k b) (i*1)
  let __do_lift<-Op.equalIn D e __do_lift __do_lift_1
  if(!__do_lift)=true then pure (ForInStep.done (some false,()))else pure (ForInStep.yield (none,()))).run P w= .ok (if a.drop s=b.drop s then(none,())else(some false,())) w:=by
  intro m
  induction m with
  |zero=>
   intro s u;rw[fY af,fY af];simp
  |succ m v=>
   intro s u;have c:s<a.length:=af;have f:s<b.length:=af;rw[List.range'_succ,List.forIn_cons];simp only[Sem.run_bind,xe o _ _ c,xe o _ _ f,Result.andThen_ok,r];rw[gw c,gw f];have z:ix a s=a[s]:=by simp[ix,List.getD,c]
   have A:ix b s=b[s]:=by simp[ix,List.getD,f]
   rw[z,A]
   by_cases g:a[s]=b[s]
   .have:=v (s+1) af;simp only[g,beq_self_eq_true,Bool.not_true,Bool.false_eq_true,if_false,Sem.run_pure,Result.andThen_ok,List.cons.injEq,true_and];exact this
   .have j:(a[s]==b[s])=false:=by simpa using g
    have l:¬(a[s]::a.drop (s+1)=b[s]::b.drop (s+1)):=λh=>g (List.cons.inj h).1;simp only[j,l,Bool.not_false,if_true,if_false,Sem.run_pure,Result.andThen_ok]
 have k0:=key n 0 af;simp only[Op.equalIn,Sem.run_bind,run_underlying q,Result.andThen_ok,p,Std.Legacy.Range.forIn_eq_forIn_range',Std.Legacy.Range.size];simp only[Nat.sub_zero,Nat.add_sub_cancel,Nat.div_one];rw[k0]
 by_cases h:a=b
 .simp[h]
 .simp[h]
end
end Go.Spk
