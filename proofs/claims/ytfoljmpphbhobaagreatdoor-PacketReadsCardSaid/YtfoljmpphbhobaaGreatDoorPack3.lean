/- packet's Pack: the next packet. -/
import Derived.Test.YtfoljmpphbhobaaGreatDoorPack2
namespace Go.Spk
open Go.RowKit
section
variable {T e : TypeId} {B b : Nat} {bs : List Value} {w w' : World}
theorem IsBX.keep (h : IsBX T e B b bs w) (hb : w'.heap[b]? = w.heap[b]?) (hB : ∀ i, B ≤ i → i < w.heap.size → w'.heap[i]? = w.heap[i]?) : IsBX T e B b bs w' := by
  have key : ∀ p, BX T e B b p bs w → BX T e B b p bs w' := by
    rintro p ⟨v, h1, h2, h3⟩
    refine ⟨v, hb.trans h1, ⟨h2.1, ?_⟩, h3⟩
    rcases h2.2 with h0 | ⟨g, cap, cur, hv, hBg, hg, rest⟩
    · exact .inl h0
    · exact .inr ⟨g, cap, cur, hv, hBg, (hB g hBg (Array.getElem?_eq_some_iff.1 hg).1).trans hg, rest⟩
  exact h.elim (fun x => .inl (key _ x)) (fun x => .inr (key _ x))
theorem IsBXF.keep (h : IsBXF T e B b bs w) (hb : w'.heap[b]? = w.heap[b]?) (hB : ∀ i, B ≤ i → i < w.heap.size → w'.heap[i]? = w.heap[i]?) : IsBXF T e B b bs w' := by
  have key : ∀ p, BXF T e B b p bs w → BXF T e B b p bs w' := by
    rintro p ⟨v, h1, h2, h3⟩
    refine ⟨v, hb.trans h1, ⟨h2.1, ?_⟩, h3⟩
    rcases h2.2 with h0 | ⟨g, cap, cur, fz, hv, hBg, hg, rest⟩
    · exact .inl h0
    · exact .inr ⟨g, cap, cur, fz, hv, hBg, (hB g hBg (Array.getElem?_eq_some_iff.1 hg).1).trans hg, rest⟩
  exact h.elim (fun x => .inl (key _ x)) (fun x => .inr (key _ x))
theorem IsBX.lt (h : IsBX T e B b bs w) : b < w.heap.size := by
  rcases h with ⟨v, h1, _⟩ | ⟨v, h1, _⟩ <;> exact (Array.getElem?_eq_some_iff.1 h1).1
theorem IsBXF.lt (h : IsBXF T e B b bs w) : b < w.heap.size := by
  rcases h with ⟨v, h1, _⟩ | ⟨v, h1, _⟩ <;> exact (Array.getElem?_eq_some_iff.1 h1).1
theorem IsBX.apt {B' b' : Nat} (h : IsBX T e B b bs w) (hA : Apt B' b' w w') (hB : w.heap.size ≤ B') (hb : b ≠ b') (hb2 : b' < B) : IsBX T e B b bs w' :=
  h.keep (hA.block b (Nat.lt_of_lt_of_le h.lt hB) hb) (fun i h1 h2 => hA.block i (Nat.lt_of_lt_of_le h2 hB) (by omega))
theorem IsBX.below (h : IsBX T e B b bs w) (hA : Below w.heap.size w w') : IsBX T e B b bs w' :=
  h.keep (hA.block b h.lt) (fun i _ h2 => hA.block i h2)
theorem IsBXF.below (h : IsBXF T e B b bs w) (hA : Below w.heap.size w w') : IsBXF T e B b bs w' :=
  h.keep (hA.block b h.lt) (fun i _ h2 => hA.block i h2)
theorem IsBXF.grown {g : Nat} (h : IsBXF T e B b bs w) (hA : w.grownBy w' (some g)) (hb : b ≠ g) (hg : g < B) : IsBXF T e B b bs w' :=
  h.keep (hA.block b h.lt (ne_some hb)) (fun i h1 h2 => hA.block i h2 (ne_some (by omega)))
theorem only_below {a : World} {r : Option Nat} {C : Nat} (h : w.grownBy a r) (k : Below C a w') (hC : w.heap.size ≤ C) : w.grownBy w' r :=
  ⟨k.os.trans h.os, k.tape.trans h.tape, k.output.trans h.output, Nat.le_trans h.size k.size, fun i hi hne => (k.block i (by omega)).trans (h.block i hi hne)⟩
theorem strCells_bI (s : ByteArray) : Lib.strCells s = (bI s).map (Value.int .u8) := by
  unfold Lib.strCells bI
  rw [List.map_map]
  rfl
end
/-- A load in mid-row, in a class of worlds. -/
theorem quiet_load_mid {P : Program} {ops : Array Oper} {C : World → Prop} {o : Oper} {a : Act} {K : Act → Prop} {b : Act} (hw : Region.wanted o (yielded ops a.tmps) = true) (ty : TypeId) (x : Operand) (ho : o.op = .load ty x)
    (g off : Nat) (hx : a.eval x = .pointer (some ⟨g, off, none⟩)) (cs : Array Value) (d : TypeDesc) (hS : ∀ w, C w → w.rangeAt g off cs.toList)
    (hu : P.underlying ty = some d) (hd : d.isRow = true) (hi : (P.info? ty).map (·.size) = some cs.size) (h2 : K (a.put o.dst (.agg cs))) :
    if Region.wanted o (yielded ops a.tmps) then o.quiet P a C K else K b := by
  refine quiet_want hw ⟨.agg cs, fun w hC => quietAt_val ?_, h2⟩
  have h := yieldsIf_load_mid (P := P) (ops := ops) (S := C) (op := o) (a := a) hw ty x ho g off hx cs.toList d (fun w hC => hS w hC) hu hd (by simpa using hi)
  rcases h with ⟨_, h⟩ | ⟨h, _⟩
  · simpa using h w hC
  · rw [hw] at h; cases h
end Go.Spk
namespace Go.Proofs.YtfoljmpphbhobaaGreatDoor
open Go.RowKit Go.Spk
set_option linter.unusedVariables false
attribute [local go_sem ↓] Go.wp_at_zero Go.wp_at_succ
theorem str_ne {p : ByteArray} (h : 1 ≤ p.size) : ¬ p.toList = [] := fun e => by
  rw [ByteArray.toList_eq] at e
  have e2 : bI p = [] := by unfold bI; rw [e]; rfl
  rw [← bI_length, e2] at h
  exact absurd h (by decide)
theorem pad_int (b : Bool) (k : Nat) : (4 : Int) + -((((aheadN b : Nat) : Int) + ((k : Int) + 1) + 4) % 8) % 8 = (padP b k : Nat) := by
  unfold padP
  push_cast
  omega
/-- The writer's cells behind a packet. -/
theorem line_next {w : World} {g : Nat} {T : TypeId} {n : Nat} {b : Bool} {ks : List Int} {rest : Array Value} (h : Whole w g T (lineRow n b ks ++ rest)) : Whole (w.setCell ⟨g, 0, none⟩ (.int .u64 ((n + 1 : Nat) : Int))) g T (lineRow (n + 1) b ks ++ rest) := by
  have h1 := h.stored 0 (.int .u64 ((n + 1 : Nat) : Int))
  have e : (lineRow n b ks ++ rest).setIfInBounds 0 (.int .u64 ((n + 1 : Nat) : Int)) = lineRow (n + 1) b ks ++ rest := by
    rw [line_list2, line_list2]; simp
  rwa [e] at h1
set_option maxRecDepth 100000 in
set_option maxHeartbeats 2000000 in
theorem pack_calls (g n : Nat) (b : Bool) (ks : List Int) (p : ByteArray) (hk : ks.length = 32) (bk : U8s ks) (h1 : 1 ≤ p.size) (hl : p.size ≤ 32768) (hn : n ≤ 1000000000) (w : World) (h : Whole w g 29 (lineRow n b ks ++ #[]))
   (t0 : w.rangeAt 21 0 (beginI.map (Value.int .u32))) (t1 : w.rangeAt 22 0 orderC) :
    Calls Tryz.prog 10 #[.pointer (some ⟨g, 0, none⟩), .string p] w fun e w' => e = .returned (.tuple #[.string (strOfNums (packI b ks n (bI p))), .nilIface]) ∧ Whole w' g 29 (lineRow (n + 1) b ks ++ #[]) ∧ w.grownBy w' (some g) := by
  have T0 := Lib.hid t0; have T1 := Lib.hid t1
  have hne := str_ne h1
  have hne3 : p.toList.isEmpty = false := by simpa using hne
  have hne4 : (!p.toList.isEmpty) = true := by simpa using hne
  have i1 : ¬ (32768 : Int) < p.size := by omega
  have c1 := (line_cells h).2
  have HPB := Lib.hid (padP_bd b p.size)
  have HP := Lib.hid (pad_int b p.size)
  obtain ⟨Z, hZ⟩ : ∃ Z, Z = sizeP b p.size := ⟨_, rfl⟩
  obtain ⟨Y, hY⟩ : ∃ Y, Y = bodyP b (bI p) := ⟨_, rfl⟩
  obtain ⟨X, hX⟩ : ∃ X, X = strOfNums (outP b ks n (bI p)) := ⟨_, rfl⟩
  have hZl : Z.length = 4 := by rw [hZ]; exact sizeP_length _ _
  have hZm : ∀ z ∈ Z, 0 ≤ z ∧ z ≤ 255 := by rw [hZ]; exact beT_mem _ _ _
  have hYm : ∀ z ∈ Y, 0 ≤ z ∧ z ≤ 255 := by rw [hY]; exact bodyP_mem b _ (U8s_bI p)
  have hYl : Y.length = p.size + 1 + padP b p.size := by rw [hY, bodyP_length, bI_length]
  have hXs : X.size ≤ 33000 := by
    have := padP_bd b (bI p).length
    rw [bI_length] at this
    rw [hX, str_size, outP_length, bI_length]
    unfold tagN
    split <;> omega
  have hfin : strOfNums Z ++ X = strOfNums (packI b ks n (bI p)) := by
    rw [hX, hZ, ← str_cat]; unfold packI; rw [bI_length]
  have hcat : (strOfNums Z).size + X.size ≤ 9223372036854775807 := by rw [str_size, hZl]; omega
  rw [← hfin]
  have HZ := Lib.hid hZ; have HY := Lib.hid hY; have HX := Lib.hid hX; have HZL := Lib.hid hZl; have HZM := Lib.hid hZm; have HYM := Lib.hid hYm; have HYL := Lib.hid hYl; have HCAT := Lib.hid hcat
  have HH := Lib.hid h; have HK := Lib.hid hk; have BK := Lib.hid bk; have HN := Lib.hid hn
  have HI := Lib.hid (show (Tryz.prog.info? 25).map (·.size) = some (rowI .u8 ks).size by rw [rowI_size, hk]; kernel_rfl)
  clear t0 t1 h hk bk hn hZ hY hX hZl hZm hYm hYl hXs hfin hcat
  go_enter Tryz.func10, Tryz.ntmps10
  go_wp2_with fail
  refine (ahead_calls g b _ c1).mono ?_
  rintro e w' ⟨rfl, hw⟩
  obtain rfl := hw.symm
  have ha : (if b then (0 : Int) else 4) = ((aheadN b : Nat) : Int) := by cases b <;> rfl
  rw [ha]
  have ha4 : ((aheadN b : Nat) : Int) ≤ 4 := by cases b <;> decide
  clear ha
  go_wp2_with fail
  rw [HP.out]
  generalize hP : padP b p.size = P at HPB
  have HPE := Lib.hid hP
  clear hP HP ha4
  have hm : (p.size : Int) + 1 + (P : Int) = ((p.size + 1 + P : Nat) : Int) := by push_cast; rfl
  rw [hm]
  clear hm
  generalize hW : (w.alloc _).alloc _ = W0
  have hF0 : Below w.heap.size w W0 ∧ Whole W0 w.heap.size 62 #[.pointer none, .slice none 0 0] ∧ Whole W0 (w.heap.size + 1) 62 #[.pointer none, .slice none 0 0] ∧ W0.heap.size = w.heap.size + 2 := by
    subst hW; exact ⟨by go_grown, (Whole.new rfl rfl).alloc _, Whole.new (by simp) rfl, by simp⟩
  have HF0 := Lib.hid hF0
  clear hW hF0
  refine (u32_calls (p.size + 1 + P) (by have := HPB.out; omega) (w.heap.size + 2) w.heap.size [] W0 (BX.fresh _ HF0.out.2.1) (by simp) (Nat.le_of_eq HF0.out.2.2.2.symm)).mono ?_
  rintro e W1 ⟨rfl, hb1, ha1⟩
  have HB1 := Lib.hid (show IsBX 62 5 (w.heap.size + 2) w.heap.size (Z.map (Value.int .u8)) W1 by
    rw [HZ.out]; unfold sizeP; rw [HPE.out]; exact hb1)
  have HA1 := Lib.hid (HF0.out.1.trans (ha1.below (Nat.le_add_right _ _) (Nat.le_refl _)))
  have HD1 := Lib.hid (show Whole W1 (w.heap.size + 1) 62 #[.pointer none, .slice none 0 0] from (ha1.block (w.heap.size + 1) (by omega) (by omega)).trans HF0.out.2.2.1)
  have HS1 := Lib.hid (show w.heap.size + 2 ≤ W1.heap.size from HF0.out.2.2.2 ▸ ha1.size)
  clear hb1 ha1
  have hw8 : IntKind.u8.wrap (P : Int) = P := by rw [IntKind.wrap_u8']; have := HPB.out; omega
  go_wp2_with fail
  clear hw8
  refine (outByte_calls W1.heap.size (w.heap.size + 1) [] P W1 (BX.fresh _ HD1.out) (by simp) (Nat.le_refl _)).mono ?_
  rintro e W2 ⟨rfl, hb2, ha2⟩
  have HB2 := Lib.hid hb2; have HA2 := Lib.hid ha2
  clear hb2 ha2
  go_wp2_with fail
  refine (outRaw_calls W1.heap.size (w.heap.size + 1) _ p W2 HB2.out (by simp; omega) HA2.out.size).mono ?_
  rintro e W3 ⟨rfl, hb3, ha3⟩
  have HB3 := Lib.hid hb3; have HA3 := Lib.hid (HA2.out.trans ha3)
  clear hb3 ha3
  go_wp2_with fail
  refine (Tryz.strings_Repeat ⟨#[0]⟩ P W3 (by have := HPB.out; omega) (by have := HPB.out; show 1 * P ≤ _; omega)).mono ?_
  obtain ⟨zs, hzs⟩ : ∃ zs, zs = (⟨(Lib.repeatL (ByteArray.mk #[0]).data.toList P).toArray⟩ : ByteArray) := ⟨_, rfl⟩
  have hzb : bI zs = List.replicate P 0 := by rw [hzs, repeat_zeros]
  have hzz : zs.size ≤ 11 := by rw [← bI_length, hzb, List.length_replicate]; exact HPB.out.2
  rw [← hzs]
  have HZB := Lib.hid hzb
  clear hzs hzb
  rintro e W4 ⟨rfl, hb4⟩
  have HB4 := Lib.hid (HB3.out.below hb4); have HA4 := Lib.hid (HA3.out.trans (Apt.of_below (hb4.mono HA3.out.size)))
  clear hb4
  go_wp2_with fail
  refine (outRaw_calls W1.heap.size (w.heap.size + 1) _ zs W4 HB4.out (by simp [Lib.strCells_length]; omega) HA4.out.size).mono ?_
  rintro e W5 ⟨rfl, hb5, ha5⟩
  have HB5 := Lib.hid (show IsBXF 62 5 W1.heap.size (w.heap.size + 1) (Y.map (Value.int .u8)) W5 by
    have h := IsBXF.of hb5
    rw [strCells_bI, strCells_bI, HZB.out, List.nil_append, show [Value.int .u8 (P : Int)] = [(P : Int)].map (Value.int .u8) from rfl, ← List.map_append, ← List.map_append] at h
    rw [HY.out]; unfold bodyP; rw [bI_length, HPE.out]; exact h)
  have HA5 := Lib.hid (HA4.out.trans ha5)
  clear hb5 ha5
  go_wp2_with fail
  refine (outBytes_calls W1.heap.size (w.heap.size + 1) Y HYM.out W5 HB5.out (fun e => by have := HYL.out; rw [e] at this; simp at this; omega)).mono ?_
  rintro e W6 ⟨rfl, hb6, ha6⟩
  have HA6 := Lib.hid (HA5.out.trans ha6)
  have HC6 := Lib.hid (And.intro (HA1.out.trans (HA6.out.below (by have := HS1.out; omega) (by omega))) (IsBXF.of (HB1.out.apt HA6.out (Nat.le_refl _) (by omega) (by omega))))
  have HW6 := Lib.hid (HH.out.below HC6.out.1 HH.out.inside)
  clear hb6 ha6
  have c1 := (line_cells HW6.out).2
  have hn := HN.out
  have hwn : IntKind.u64.wrap ((n : Int) + 1) = (n : Int) + 1 := by
    have e : IntKind.u64.wrap ((n : Int) + 1) = ((n : Int) + 1) % 18446744073709551616 := by simp [IntKind.wrap, IntKind.bits, IntKind.signed]
    rw [e]; omega
  cases b
  · have c0 := (line_cells HW6.out).1
    have f0 := HW6.out.free 0
    have HXY := Lib.hid (show strOfNums Y = X by rw [HX.out, HY.out]; rfl)
    go_wp2_with fail
    rw [HXY.out]
    generalize hW : World.setCell _ _ _ = W7
    have HF7 := Lib.hid (show Whole W7 g 29 (lineRow (n + 1) false ks ++ #[]) ∧ w.grownBy W7 (some g) ∧ IsBXF 62 5 (w.heap.size + 2) w.heap.size (Z.map (Value.int .u8)) W7 from by
      have hg := HH.out.inside
      subst hW
      exact ⟨line_next HW6.out, only_trans (only_of_below HC6.out.1 _) (only_stored _ rfl _), HC6.out.2.grown (g := g) (only_stored _ rfl _) (Nat.ne_of_gt hg) (by omega)⟩)
    clear hW c0 f0 c1
    refine (outBytes_calls (w.heap.size + 2) w.heap.size Z HZM.out W7 HF7.out.2.2 (fun e => by have := HZL.out; rw [e] at this; cases this)).mono ?_
    rintro e W8 ⟨rfl, hb8, ha8⟩
    have hbw : Below w.heap.size W7 W8 := ha8.below (by omega) (Nat.le_refl _)
    have HF8 := Lib.hid (And.intro (HF7.out.1.below hbw HH.out.inside) (only_below HF7.out.2.1 hbw (Nat.le_refl _)))
    clear hb8 ha8 hbw
    have hcat := HCAT.out
    go_wp2_with fail
    go_ret2
    exact ⟨rfl, HF8.out⟩
  · have HNN := Lib.hid (And.intro (nonceN_length n) (U8s_of_mem (nonceN_mem n)))
    generalize hNN : nonceN n = NN at HNN
    have HNE := Lib.hid hNN
    have HXS := Lib.hid (show strOfNums (sealI ks NN (bI (strOfNums Y)) (bI (strOfNums Z))) = X by
      rw [HX.out, bI_str HYM.out, bI_str HZM.out, HNE.out.symm, HY.out, HZ.out]; unfold outP; rw [bI_length]; rfl)
    have HYS := Lib.hid (show (strOfNums Y).size ≤ 1000000 ∧ (strOfNums Z).size ≤ 1000000 by rw [str_size, str_size, HYL.out, HZL.out, HPE.out]; have := HPB.out; omega)
    clear hNN
    go_wp2_with fail
    refine wp_region_class (fun W => Below w.heap.size w W ∧ IsBXF 62 5 (w.heap.size + 2) w.heap.size (Z.map (Value.int .u8)) W) (by kernel_rfl) (by kernel_rfl) ⟨below_drawnN HC6.out.1 1, HC6.out.2⟩ ?_
    refine wpQuiet_step (fun K hK => ?_)
    refine quiet_want (by kernel_rfl) ⟨(.pointer (some ⟨g, 0, none⟩)), fun W hW => ?_, ?_⟩
    · refine quietAt_val ?_
      go_simp
    go_simp
    refine hK _ ?_
    clear hK K
    refine wpQuiet_step (fun K hK => ?_)
    refine quiet_want (by kernel_rfl) ⟨(.pointer (some ⟨g, 0, none⟩)), fun W hW => ?_, ?_⟩
    · refine quietAt_val ?_
      go_simp
    go_simp
    refine hK _ ?_
    clear hK K
    refine wpQuiet_step (fun K hK => ?_)
    refine quiet_want (by kernel_rfl) ⟨(.pointer (some ⟨g, 0, none⟩)), fun W hW => ?_, ?_⟩
    · refine quietAt_val ?_
      go_simp
    go_simp
    refine hK _ ?_
    clear hK K
    refine wpQuiet_step (fun K hK => ?_)
    refine quiet_want (by kernel_rfl) ⟨(.pointer (some ⟨g, 2, none⟩)), fun W hW => ?_, ?_⟩
    · refine quietAt_val ?_
      go_simp
    go_simp
    refine hK _ ?_
    clear hK K
    refine wpQuiet_step (fun K hK => ?_)
    refine quiet_load_mid (by kernel_rfl) 25 (.tmp 56) rfl g 2 rfl (rowI .u8 ks) _ (fun W hW => line_key (HH.out.below hW.1 HH.out.inside)) Tryz.underlying25 rfl HI.out ?_
    go_simp
    refine hK _ ?_
    clear hK K
    refine wpQuiet_step (fun K hK => ?_)
    refine quiet_want (by kernel_rfl) ⟨(.pointer (some ⟨g, 0, none⟩)), fun W hW => ?_, ?_⟩
    · refine quietAt_val ?_
      go_simp
    go_simp
    refine hK _ ?_
    clear hK K
    refine wpQuiet_step (fun K hK => ?_)
    refine quiet_want (by kernel_rfl) ⟨(.pointer (some ⟨g, 0, none⟩)), fun W hW => ?_, ?_⟩
    · refine quietAt_val ?_
      go_simp
    go_simp
    refine hK _ ?_
    clear hK K
    refine wpQuiet_step (fun K hK => ?_)
    refine quiet_want (by kernel_rfl) ⟨(.pointer (some ⟨g, 0, none⟩)), fun W hW => ?_, ?_⟩
    · refine quietAt_val ?_
      go_simp
    go_simp
    refine hK _ ?_
    clear hK K
    refine wpQuiet_step (fun K hK => ?_)
    refine quiet_want (by kernel_rfl) ⟨(.agg (rowI .u8 NN)), fun W hW => ?_, ?_⟩
    · refine quietAt_call (f := 28) (args := (#[.pointer (some ⟨g, 0, none⟩)])) (by go_simp) ?_
      refine (nonce_calls g n true ks _ #[] (by have := HN.out; omega) W (HH.out.below hW.1 HH.out.inside)).mono ?_
      rw [HNE.out]
      rintro e W' ⟨rfl, hb⟩
      exact ⟨rfl, hW.1.trans (hb.mono hW.1.size), hW.2.below hb⟩
    go_simp
    refine hK _ ?_
    clear hK K
    refine wpQuiet_step (fun K hK => ?_)
    refine quiet_want (by kernel_rfl) ⟨(.string (strOfNums Y)), fun W hW => ?_, ?_⟩
    · refine quietAt_val ?_
      go_simp
    go_simp
    refine hK _ ?_
    clear hK K
    refine wpQuiet_step (fun K hK => ?_)
    refine quiet_want (by kernel_rfl) ⟨(.string (strOfNums Z)), fun W hW => ?_, ?_⟩
    · refine quietAt_call (f := 26) (args := (#[.pointer (some ⟨w.heap.size, 0, none⟩)])) (by go_simp) ?_
      refine (outBytes_calls (w.heap.size + 2) w.heap.size Z HZM.out W hW.2 (fun e => by have := HZL.out; rw [e] at this; cases this)).mono ?_
      rintro e W' ⟨rfl, hb, ha⟩
      exact ⟨rfl, hW.1.trans (ha.below (by omega) (Nat.le_refl _)), hb⟩
    go_simp
    refine hK _ ?_
    clear hK K
    refine wpQuiet_step (fun K hK => ?_)
    refine quiet_want (by kernel_rfl) ⟨(.string X), fun W hW => ?_, ?_⟩
    · refine quietAt_call (f := 27) (args := (#[.agg (rowI .u8 ks), .agg (rowI .u8 NN), .string (strOfNums Y), .string (strOfNums Z)])) (by go_simp) ?_
      refine (pseal_calls ks NN (strOfNums Y) (strOfNums Z) HK.out HNN.out.1 BK.out HNN.out.2 HYS.out.1 HYS.out.2 W (rangeAt_below T0.out hW.1) (rangeAt_below T1.out hW.1)).mono ?_
      rw [HXS.out]
      rintro e W' ⟨rfl, hb⟩
      exact ⟨rfl, hW.1.trans (hb.mono hW.1.size), hW.2.below hb⟩
    go_simp
    refine hK _ ?_
    clear hK K
    refine wpQuiet_step (fun K hK => ?_)
    refine quiet_want (by kernel_rfl) ⟨(.string X), fun W hW => ?_, ?_⟩
    · refine quietAt_val ?_
      go_simp
    go_simp
    refine hK _ ?_
    clear hK K
    refine wpQuiet_nil ?_
    intro W7 hF7
    have HC7 := Lib.hid hF7
    have HW7 := Lib.hid (HH.out.below hF7.1 HH.out.inside)
    clear hF7 c1
    have c0 := (line_cells HW7.out).1
    have f0 := HW7.out.free 0
    go_wp2_with fail
    generalize hW : World.setCell _ _ _ = W8
    have HF8 := Lib.hid (show Whole W8 g 29 (lineRow (n + 1) true ks ++ #[]) ∧ w.grownBy W8 (some g) ∧ IsBXF 62 5 (w.heap.size + 2) w.heap.size (Z.map (Value.int .u8)) W8 from by
      have hg := HH.out.inside
      subst hW
      exact ⟨line_next HW7.out, only_trans (only_of_below HC7.out.1 _) (only_stored _ rfl _), HC7.out.2.grown (g := g) (only_stored _ rfl _) (Nat.ne_of_gt hg) (by omega)⟩)
    clear hW c0 f0
    refine (outBytes_calls (w.heap.size + 2) w.heap.size Z HZM.out W8 HF8.out.2.2 (fun e => by have := HZL.out; rw [e] at this; cases this)).mono ?_
    rintro e W9 ⟨rfl, hb9, ha9⟩
    have hbw : Below w.heap.size W8 W9 := ha9.below (by omega) (Nat.le_refl _)
    have HF9 := Lib.hid (And.intro (HF8.out.1.below hbw HH.out.inside) (only_below HF8.out.2.1 hbw (Nat.le_refl _)))
    clear hb9 ha9 hbw
    have hcat := HCAT.out
    go_wp2_with fail
    go_ret2
    exact ⟨rfl, HF9.out⟩
end Go.Proofs.YtfoljmpphbhobaaGreatDoor
