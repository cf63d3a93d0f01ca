/- wire.Out: bytes in the making: its Builder lies in a block of wire.Out's type; a write changes the Builder's own block and its own bytes alone. -/
import Derived.Test.YtfoljmpphbhobaaGreatDoorA8
import Derived.Lib.FrozenHead
import Derived.Shelf.Strings.BuilderK
namespace Go.Spk
open Go.RowKit
/-- From w to w' the blocks below B have not changed, but for b. -/
structure Apt (B b : Nat) (w w' : World) : Prop where
  os : w'.os = w.os
  tape : w'.tape = w.tape
  output : w'.output = w.output
  size : w.heap.size ≤ w'.heap.size
  block : ∀ i, i < B → i ≠ b → w'.heap[i]? = w.heap[i]?
section
variable {B b : Nat} {w w' w'' : World}
theorem Apt.refl (B b : Nat) (w : World) : Apt B b w w := ⟨rfl, rfl, rfl, Nat.le_refl _, fun _ _ _ => rfl⟩
theorem Apt.trans (h : Apt B b w w') (k : Apt B b w' w'') : Apt B b w w'' :=
  ⟨k.os.trans h.os, k.tape.trans h.tape, k.output.trans h.output, Nat.le_trans h.size k.size, fun i hi hb => (k.block i hi hb).trans (h.block i hi hb)⟩
theorem Apt.grown {r : Option Nat} (h : Apt B b w w') (k : w'.grownBy w'' r) (hB : B ≤ w'.heap.size) (hr : ∀ g, r = some g → B ≤ g ∨ g = b) : Apt B b w w'' :=
  ⟨k.os.trans h.os, k.tape.trans h.tape, k.output.trans h.output, Nat.le_trans h.size k.size, fun i hi hb => (k.block i (Nat.lt_of_lt_of_le hi hB) (fun e => by rcases hr i e.symm with h1 | h1 <;> omega)).trans (h.block i hi hb)⟩
theorem Apt.alloc (h : Apt B b w w') (hB : B ≤ w'.heap.size) (o : Obj) : Apt B b w (w'.alloc o) := h.grown (World.grownBy_alloc w' o none) hB (fun _ e => by cases e)
theorem Apt.drew (h : Apt B b w w') : Apt B b w w'.drew := ⟨h.os, h.tape, h.output, h.size, h.block⟩
theorem Apt.drewN (h : Apt B b w w') (n : Nat) : Apt B b w (w'.drewN n) := ⟨h.os, h.tape, h.output, h.size, h.block⟩
theorem Apt.set (h : Apt B b w w') (i : Nat) (u : Value) : Apt B b w (w'.setCell ⟨b, i, none⟩ u) :=
  ⟨h.os, h.tape, h.output, by simpa [World.setCell] using h.size, fun j hj hb => (Below.heap_setCell w' ⟨b, i, none⟩ u j (fun e => hb e)).trans (h.block j hj hb)⟩
theorem Apt.of_below (h : Below B w w') : Apt B b w w' := ⟨h.os, h.tape, h.output, h.size, fun i hi _ => h.block i hi⟩
theorem Apt.mono {C : Nat} (h : Apt B b w w') (hC : C ≤ B) : Apt C b w w' := ⟨h.os, h.tape, h.output, h.size, fun i hi hb => h.block i (by omega) hb⟩
theorem Apt.below {C : Nat} (h : Apt B b w w') (hC : C ≤ B) (hb : C ≤ b) : Below C w w' :=
  (Below.refl C w).trans ⟨h.os, h.tape, h.output, h.size, fun i hi => h.block i (by omega) (by omega)⟩
end
/-- A Builder in the block b, of type T, that holds bs; its bytes, where there are any, lie in a block of B or behind. -/
def BX (T e : TypeId) (B b : Nat) (p : Value) (bs : List Value) (w : World) : Prop :=
  ∃ v, w.heap[b]? = some (.cells #[p, v] T (0, 0)) ∧ w.ownsRow B e 1 v bs.length bs ∧ v.ownBlock ≠ some b
def BXF (T e : TypeId) (B b : Nat) (p : Value) (bs : List Value) (w : World) : Prop :=
  ∃ v, w.heap[b]? = some (.cells #[p, v] T (0, 0)) ∧ w.ownsRowF B e 1 v bs.length bs ∧ v.ownBlock ≠ some b
def IsBX (T e : TypeId) (B b : Nat) (bs : List Value) (w : World) : Prop := BX T e B b (.pointer none) bs w ∨ BX T e B b (.pointer (some ⟨b, 0, none⟩)) bs w
def IsBXF (T e : TypeId) (B b : Nat) (bs : List Value) (w : World) : Prop := BXF T e B b (.pointer none) bs w ∨ BXF T e B b (.pointer (some ⟨b, 0, none⟩)) bs w
section
variable {T e : TypeId} {B b : Nat} {p : Value} {bs : List Value} {w w' : World}
theorem IsBXF.of (h : IsBX T e B b bs w) : IsBXF T e B b bs w := by
  rcases h with ⟨v, h1, h2, h3⟩ | ⟨v, h1, h2, h3⟩
  · exact .inl ⟨v, h1, World.ownsRowF_of h2, h3⟩
  · exact .inr ⟨v, h1, World.ownsRowF_of h2, h3⟩
theorem BX.cell0 (h : BX T e B b p bs w) : w.cell? ⟨b, 0, none⟩ = some p := by
  obtain ⟨v, hb, _⟩ := h
  simp [World.cell?, hb]
theorem BX.shape (h : BX T e B b p bs w) : w.shape? b = some (T, 2) := by
  obtain ⟨v, hb, _⟩ := h
  simp [World.shape?, hb]
theorem BX.frozen0 (h : BX T e B b p bs w) : w.frozen? ⟨b, 0, none⟩ = false := by
  obtain ⟨v, hb, _⟩ := h
  simp [World.frozen?, hb]
theorem BX.used (h : BX T e B b p bs w) (q : Value) : BX T e B b q bs (w.setCell ⟨b, 0, none⟩ q) := by
  obtain ⟨v, hb, hown, hne⟩ := h
  refine ⟨v, ?_, ?_, hne⟩
  · simp [World.setCell, Array.getElem?_modify, hb]
  · exact hown.kept (row := some b) ⟨rfl, rfl, rfl, by simp [World.setCell], fun k _ hk => Below.heap_setCell _ _ _ _ (fun e => hk (by simp [e]))⟩ (Or.inr hne)
theorem BX.put {v v' : Value} {bs' : List Value} (hb : w.heap[b]? = some (.cells #[p, v] T (0, 0))) (hown : w.ownsRow B e 1 v' bs'.length bs') (hTe : T ≠ e) : BX T e B b p bs' (w.setCell ⟨b, 1, none⟩ v') := by
  have hne := Lib.ownBlock_ne hown hb hTe
  refine ⟨v', ?_, ?_, hne⟩
  · simp [World.setCell, Array.getElem?_modify, hb]
  · exact hown.kept (row := some b) ⟨rfl, rfl, rfl, by simp [World.setCell], fun k _ hk => Below.heap_setCell _ _ _ _ (fun e => hk (by simp [e]))⟩ (Or.inr hne)
/-- A new Builder; its bytes will lie in a block of B or behind, whatever B. -/
theorem BX.fresh (B : Nat) (hb : w.heap[b]? = some (.cells #[.pointer none, .slice none 0 0] T (0, 0))) : IsBX T e B b [] w :=
  .inl ⟨.slice none 0 0, hb, World.ownsRow_nil _ _ _ _, by simp [Value.ownBlock]⟩
theorem BXF.froze {g cap : Nat} (h : BXF T e B b p bs w) (hc : w.cell? ⟨b, 1, none⟩ = some (.slice (some ⟨g, 0, none⟩) bs.length cap)) : BXF T e B b p bs (w.freeze ⟨g, 0, none⟩ bs.length) := by
  obtain ⟨v, hb, hown, hne⟩ := h
  have hv : v = .slice (some ⟨g, 0, none⟩) bs.length cap := by
    rw [Lib.cell_of_heap hb] at hc
    simpa using hc
  subst hv
  have hgb : g ≠ b := fun e => hne (by simp [Value.ownBlock, e])
  -- through the library's word, at a base that lies below b
  have hA : Lib.BuilderAtF T e 0 b p bs w := ⟨Nat.zero_le _, _, hb, by
    refine ⟨hown.1, ?_⟩
    rcases hown.2 with h0 | ⟨g', c', cur, fz, hv, hB, rest⟩
    · exact .inl h0
    · exact .inr ⟨g', c', cur, fz, hv, Nat.zero_le _, rest⟩, hne⟩
  have hF := hA.froze hc
  obtain ⟨_, v', hb', hown', hne'⟩ := hF
  refine ⟨v', hb', ⟨hown'.1, ?_⟩, hne'⟩
  have hvv : v' = .slice (some ⟨g, 0, none⟩) bs.length cap := by
    have h0 : (w.freeze ⟨g, 0, none⟩ bs.length).heap[b]? = w.heap[b]? := by
      unfold World.freeze
      split
      · rfl
      · simp only [Array.getElem?_modify]
        rw [if_neg hgb]
    rw [h0, hb] at hb'
    simp only [Option.some.injEq, Obj.cells.injEq] at hb'
    have := hb'.1
    simpa using this.symm
  rcases hown'.2 with h0 | ⟨g', c', cur, fz, hv, _, rest⟩
  · exact .inl h0
  · have hBg : B ≤ g' := by
      rcases hown.2 with ⟨h0, _⟩ | ⟨g2, c2, cur2, fz2, hv2, hB2, _⟩
      · cases h0
      · rw [hvv] at hv
        injection hv with e1 _ _
        injection hv2 with e2 _ _
        rw [e1] at e2
        injection e2 with e2
        injection e2 with e2 _ _
        omega
    exact .inr ⟨g', c', cur, fz, hv, hBg, rest⟩
end
end Go.Spk
namespace Go.Proofs.YtfoljmpphbhobaaGreatDoor
open Go.RowKit Go.Spk
set_option linter.unusedVariables false
theorem outLies : liesAt Tryz.prog Tryz.prog.depth 62 (2 / Tryz.prog.cellsOf 62) 0 60 1 = true := by kernel_rfl
set_option maxRecDepth 100000 in
set_option maxHeartbeats 1000000 in
theorem checkO_used (b : Nat) (w : World) (h0 : w.cell? ⟨b, 0, none⟩ = some (.pointer (some ⟨b, 0, none⟩))) :
    Calls Tryz.prog 61 #[.pointer (some ⟨b, 0, none⟩)] w fun e w' => e = .returned (.tuple #[]) ∧ w' = w := by
  obtain ⟨j, hj, _⟩ := Option.map_eq_some_iff.1 bldSize
  go_enter Tryz.func61, Tryz.ntmps61
  go_wp2
  rw [Lib.run_neq_ptr_same (P := Tryz.prog) (w := w) _ Tryz.underlying58 hj]
  go_wp2
  go_end0
  exact ⟨rfl, rfl⟩
set_option maxRecDepth 100000 in
set_option maxHeartbeats 1000000 in
theorem checkO_fresh (b : Nat) (w : World) (h0 : w.cell? ⟨b, 0, none⟩ = some (.pointer none)) (hsh : w.shape? b = some (62, 2)) (hfz : w.frozen? ⟨b, 0, none⟩ = false) :
    Calls Tryz.prog 61 #[.pointer (some ⟨b, 0, none⟩)] w fun e w' => e = .returned (.tuple #[]) ∧ w' = w.setCell ⟨b, 0, none⟩ (.pointer (some ⟨b, 0, none⟩)) := by
  obtain ⟨j, hj, hjs⟩ := Option.map_eq_some_iff.1 bldSize
  go_enter Tryz.func61, Tryz.ntmps61
  go_wp2
  rw [Lib.run_to_unsafe (P := Tryz.prog) (w := w) ⟨b, 0, none⟩ Tryz.underlying58 Tryz.underlying112 hj (by rw [hjs]; decide) hsh (Nat.zero_lt_succ 1)]
  simp only [Result.andThen]
  rw [Oper.upon_value]
  go_wp2
  rw [run_callFunc_extern Tryz.func79 (by kernel_rfl) (by kernel_rfl) (by kernel_rfl) (e := Extern.AbiNoEscape.same) (by kernel_rfl)]
  rw [Lib.run_noEscape]
  simp only [Result.andThen]
  rw [Oper.upon_value]
  go_wp2
  rw [Lib.run_from_unsafe (P := Tryz.prog) (w := w) ⟨b, 0, none⟩ Tryz.underlying112 Tryz.underlying58 hj hsh outLies]
  simp only [Result.andThen]
  rw [Oper.upon_value]
  go_wp2
  go_end0
  exact ⟨rfl, rfl⟩
theorem copyCheckO_calls (B b : Nat) (bs : List Value) (w : World) (h : IsBX 62 5 B b bs w) :
    Calls Tryz.prog 61 #[.pointer (some ⟨b, 0, none⟩)] w fun e w' => e = .returned (.tuple #[]) ∧ (BX 62 5 B b (.pointer (some ⟨b, 0, none⟩)) bs w' ∧ w.grownBy w' (some b)) := by
  rcases h with h | h
  · refine (checkO_fresh b w h.cell0 h.shape h.frozen0).mono ?_
    rintro e w' ⟨rfl, rfl⟩
    exact ⟨rfl, h.used _, only_stored _ rfl _⟩
  · refine (checkO_used b w h.cell0).mono ?_
    rintro e w' ⟨rfl, rfl⟩
    exact ⟨rfl, h, World.grownBy.refl _ _⟩
set_option maxRecDepth 100000 in
set_option maxHeartbeats 2000000 in
/-- WriteByte: the builder holds one byte more; nothing below B has changed. -/
theorem writeByteO_calls (B b : Nat) (bs : List Value) (c : Int) (w : World) (h : IsBX 62 5 B b bs w) (hlen : bs.length + 1 ≤ 140737488355328) (hBw : B ≤ w.heap.size) :
    Calls Tryz.prog 40 #[.pointer (some ⟨b, 0, none⟩), .int .u8 c] w fun e w' => e = .returned .nilIface ∧ (BX 62 5 B b (.pointer (some ⟨b, 0, none⟩)) (bs ++ [.int .u8 c]) w' ∧ Apt B b w w') := by
  obtain ⟨i0, hi, hz0, hz1, hz2⟩ := info_parts infoByte
  go_enter Tryz.func40, Tryz.ntmps40
  go_wp2_with (go_at_call 61; refine (copyCheckO_calls B b bs _ h).mono ?_)
  rintro e w1 ⟨rfl, h1, hb0⟩
  have hb1 : Apt B b w w1 := (Apt.refl B b w).grown hb0 hBw (fun k hk => by injection hk with hk; omega)
  obtain ⟨v, hbk, hown, hne⟩ := h1
  have c0 : w1.cell? ⟨b, 0, none⟩ = some (.pointer (some ⟨b, 0, none⟩)) := by rw [Lib.cell_of_heap hbk]; rfl
  have c1 : w1.cell? ⟨b, 1, none⟩ = some v := by rw [Lib.cell_of_heap hbk]; rfl
  go_wp2_with (at_builtin; refine wpList_append_own _ rfl _ _ 33 rfl B 5 i0 (.int .u8 0) 1 1 Tryz.underlying33 hi hz0 hz1 hz2 rfl (by decide) _ _ _ rfl (hown.alloc _) ⟨w1.heap.size, 0, none⟩ 1 1 [.int .u8 c] rfl rfl ?c1 ?c2 ?c3 ?c4 ?c5 ?_)
  case c1 =>
    intro j u hj
    match j, hj with
    | 0, hj => simp at hj; subst hj; simp [Addr.add]
  case c2 => intro u hu; simp at hu; subst hu; rfl
  case c3 => unfold maxLen; omega
  case c4 => omega
  case c5 => have := hb1.size; simp; omega
  intro v' w2 hown' hgrow _
  have hlt : b < w1.heap.size := Whole.inside (t := 62) (cs := #[.pointer (some ⟨b, 0, none⟩), v]) hbk
  have hb2 : w2.heap[b]? = some (.cells #[.pointer (some ⟨b, 0, none⟩), v] 62 (0, 0)) := by
    rw [hgrow.block b (by simp; omega) (fun e => hne e.symm), Lib.alloc_old w1 _ b hlt]
    exact hbk
  have d0 : w2.cell? ⟨b, 0, none⟩ = some (.pointer (some ⟨b, 0, none⟩)) := by rw [Lib.cell_of_heap hb2]; rfl
  have d1 : w2.cell? ⟨b, 1, none⟩ = some v := by rw [Lib.cell_of_heap hb2]; rfl
  have f1 : w2.frozen? ⟨b, 1, none⟩ = false := Lib.frozen_of_heap hb2 1
  obtain ⟨g, cap, rfl⟩ : ∃ g cap, v' = .slice (some ⟨g, 0, none⟩) (bs.length + 1) cap := by
    rcases hown'.2 with ⟨_, h0⟩ | ⟨g, cap, cur, hv, _⟩
    · omega
    · exact ⟨g, cap, hv⟩
  go_wp2
  go_ret
  refine ⟨rfl, ?_, ?_⟩
  · exact BX.put (T := 62) (e := 5) hb2 (bs' := bs ++ [.int .u8 c]) (by simpa using hown') (by decide)
  · exact ((hb1.alloc (by have := hb1.size; omega) _).grown hgrow (by have := hb1.size; simp; omega) (fun k hk => .inl (hown.lt k hk).1)).set 1 _
set_option maxRecDepth 100000 in
set_option maxHeartbeats 2000000 in
/-- WriteString: the builder holds the string's bytes besides; nothing below B has changed. -/
theorem writeStringO_calls (B b : Nat) (bs : List Value) (s : ByteArray) (w : World) (h : IsBX 62 5 B b bs w) (hlen : bs.length + s.size ≤ 140737488355328) (hBw : B ≤ w.heap.size) :
    Calls Tryz.prog 41 #[.pointer (some ⟨b, 0, none⟩), .string s] w fun e w' => e = .returned (.tuple #[.int .i64 s.size, .nilIface]) ∧ (BX 62 5 B b (.pointer (some ⟨b, 0, none⟩)) (bs ++ Lib.strCells s) w' ∧ Apt B b w w') := by
  obtain ⟨i0, hi, hz0, hz1, hz2⟩ := info_parts infoByte
  go_enter Tryz.func41, Tryz.ntmps41
  go_wp2_with (go_at_call 61; refine (copyCheckO_calls B b bs _ h).mono ?_)
  rintro e w1 ⟨rfl, h1, hb0⟩
  have hb1 : Apt B b w w1 := (Apt.refl B b w).grown hb0 hBw (fun k hk => by injection hk with hk; omega)
  obtain ⟨v, hbk, hown, hne⟩ := h1
  have c0 : w1.cell? ⟨b, 0, none⟩ = some (.pointer (some ⟨b, 0, none⟩)) := by rw [Lib.cell_of_heap hbk]; rfl
  have c1 : w1.cell? ⟨b, 1, none⟩ = some v := by rw [Lib.cell_of_heap hbk]; rfl
  go_wp2_with (at_builtin; refine Lib.wpList_append_own_string _ rfl _ _ 33 9 rfl B 5 i0 Tryz.underlying33 Tryz.underlying9 hi hz0 hz1 hz2 _ _ _ rfl hown s rfl ?c3 ?c4 ?c5 ?_)
  case c3 => unfold maxLen; omega
  case c4 => omega
  case c5 => have := hb1.size; omega
  intro v' w2 hown' hgrow _
  have hlt : b < w1.heap.size := Whole.inside (t := 62) (cs := #[.pointer (some ⟨b, 0, none⟩), v]) hbk
  have hb2 : w2.heap[b]? = some (.cells #[.pointer (some ⟨b, 0, none⟩), v] 62 (0, 0)) := by
    rw [hgrow.block b hlt (fun e => hne e.symm)]
    exact hbk
  have d0 : w2.cell? ⟨b, 0, none⟩ = some (.pointer (some ⟨b, 0, none⟩)) := by rw [Lib.cell_of_heap hb2]; rfl
  have d1 : w2.cell? ⟨b, 1, none⟩ = some v := by rw [Lib.cell_of_heap hb2]; rfl
  have f1 : w2.frozen? ⟨b, 1, none⟩ = false := Lib.frozen_of_heap hb2 1
  obtain ⟨ao, n', cap, rfl⟩ : ∃ ao n' cap, v' = .slice ao n' cap := by
    rcases hown'.2 with ⟨hv, _⟩ | ⟨g, cap, cur, hv, _⟩
    · exact ⟨_, _, _, hv⟩
    · exact ⟨_, _, _, hv⟩
  go_wp2
  go_ret2
  refine ⟨rfl, ?_, ?_⟩
  · exact BX.put (T := 62) (e := 5) hb2 (bs' := bs ++ Lib.strCells s) (by simpa [Lib.strCells_length] using hown') (by decide)
  · exact (hb1.grown hgrow (by have := hb1.size; omega) (fun k hk => .inl (hown.lt k hk).1)).set 1 _

set_option maxHeartbeats 2000000 in
set_option maxRecDepth 100000 in
theorem stringO_calls (B b : Nat) (l : List UInt8) (w : World) (h : IsBXF 62 5 B b (Lib.byteCells l) w) (h0 : l ≠ []) :
    Calls Tryz.prog 46 #[.pointer (some ⟨b, 0, none⟩)] w fun e w' => e = .returned (.string ⟨l.toArray⟩) ∧ (IsBXF 62 5 B b (Lib.byteCells l) w' ∧ Apt B b w w') := by
  obtain ⟨p, hp, hAt⟩ : ∃ p, (p = .pointer none ∨ p = .pointer (some ⟨b, 0, none⟩)) ∧ BXF 62 5 B b p (Lib.byteCells l) w := by
    rcases h with h | h
    · exact ⟨_, .inl rfl, h⟩
    · exact ⟨_, .inr rfl, h⟩
  obtain ⟨v, hbk, hown, hne⟩ := hAt
  have hl0 : l.length ≠ 0 := by simpa using h0
  rw [Lib.byteCells_length] at hown
  obtain ⟨g, cap, cur, fz, rfl, hbg, hg, hfz, hnc, hcm, hcs, htake⟩ : ∃ g cap cur fz, v = .slice (some ⟨g, 0, none⟩) l.length cap ∧ B ≤ g ∧ w.heap[g]? = some (.cells cur 5 fz) ∧ fz.2 ≤ l.length * 1 ∧ l.length ≤ cap ∧ cap ≤ maxLen ∧ cur.size = cap * 1 ∧ cur.toList.take (l.length * 1) = Lib.byteCells l := by
    rcases hown.2 with ⟨_, hz⟩ | ⟨g, cap, cur, fz, hv, r⟩
    · exact absurd hz hl0
    · exact ⟨g, cap, cur, fz, hv, r⟩
  have c1 : w.drew.cell? ⟨b, 1, none⟩ = some (.slice (some ⟨g, 0, none⟩) l.length cap) := by
    have : w.drew.heap[b]? = some (.cells #[p, .slice (some ⟨g, 0, none⟩) l.length cap] 62 (0, 0)) := hbk
    rw [Lib.cell_of_heap this]; rfl
  have hSD : (Builtin.unsafeSliceData_ #[33] 126 #[.slice (some ⟨g, 0, none⟩) l.length cap]).run Tryz.prog w.drew = .ok (.pointer (some ⟨g, 0, none⟩)) w.drew :=
    Lib.run_unsafeSliceData_row _ _ _ _ _ _ (by omega)
  have hUS : (Builtin.unsafeString_ #[126, 3] 9 #[.pointer (some ⟨g, 0, none⟩), .int .i64 l.length]).run Tryz.prog w.drew = .ok (.string ⟨l.toArray⟩) (w.drew.freeze ⟨g, 0, none⟩ l.length) := by
    refine Lib.run_unsafeString_row w.drew 126 3 9 5 Tryz.underlying126 (by kernel_rfl) g cur.size (by have hg' : w.drew.heap[g]? = some (.cells cur 5 fz) := hg; simp [World.shape?, hg']) l h0 (by omega) (by unfold maxLen at hcm; omega) ?_
    intro j x hx
    have := hown.cells (g := g) rfl j (.int .u8 x.toNat) (by simp [Lib.byteCells, hx])
    exact this
  have hkeep : IsBXF 62 5 B b (Lib.byteCells l) (w.drew.freeze ⟨g, 0, none⟩ l.length) := by
    have hA : BXF 62 5 B b p (Lib.byteCells l) w.drew := ⟨_, hbk, by rw [Lib.byteCells_length]; exact hown, hne⟩
    have hF := hA.froze (g := g) (cap := cap) (by rw [Lib.byteCells_length]; exact c1)
    rw [Lib.byteCells_length] at hF
    rcases hp with rfl | rfl
    · exact .inl hF
    · exact .inr hF
  go_enter Tryz.func46, Tryz.ntmps46
  go_wp2
  go_region
  all_goals (go_wp2; go_ret; exact ⟨rfl, hkeep, Apt.of_below (Lib.below_freeze (Below.drew (Below.refl B w)) (p := ⟨g, 0, none⟩) hbg _)⟩)
set_option maxHeartbeats 2000000 in
set_option maxRecDepth 100000 in
/-- Bytes: all. -/
theorem outBytes_calls (B b : Nat) (xs : List Int) (hx : ∀ v ∈ xs, 0 ≤ v ∧ v ≤ 255) (w : World) (h : IsBXF 62 5 B b (xs.map (Value.int .u8)) w) (h0 : xs ≠ []) :
    Calls Tryz.prog 26 #[.pointer (some ⟨b, 0, none⟩)] w fun e w' => e = .returned (.string (strOfNums xs)) ∧ (IsBXF 62 5 B b (xs.map (Value.int .u8)) w' ∧ Apt B b w w') := by
  rw [byteCells_of hx] at h ⊢
  have HH := Lib.hid h
  clear h
  go_enter Tryz.func26, Tryz.ntmps26
  go_wp2_with (go_at_call 46; refine (stringO_calls B b _ _ HH.out (by simpa using h0)).mono ?_)
  rintro e w1 ⟨rfl, h1, hb1⟩
  go_wp2
  go_ret
  exact ⟨rfl, h1, hb1⟩
set_option maxHeartbeats 2000000 in
set_option maxRecDepth 100000 in
/-- Byte: one more. -/
theorem outByte_calls (B b : Nat) (bs : List Value) (c : Int) (w : World) (h : IsBX 62 5 B b bs w) (hlen : bs.length + 1 ≤ 140737488355328) (hBw : B ≤ w.heap.size) :
    Calls Tryz.prog 23 #[.pointer (some ⟨b, 0, none⟩), .int .u8 c] w fun e w' => e = .returned (.pointer (some ⟨b, 0, none⟩)) ∧ (IsBX 62 5 B b (bs ++ [.int .u8 c]) w' ∧ Apt B b w w') := by
  go_enter Tryz.func23, Tryz.ntmps23
  go_wp2_with (go_at_call 40; refine (writeByteO_calls B b bs c _ h hlen hBw).mono ?_)
  rintro e w1 ⟨rfl, h1, hb1⟩
  go_wp2
  go_ret
  exact ⟨rfl, .inr h1, hb1⟩
set_option maxHeartbeats 2000000 in
set_option maxRecDepth 100000 in
/-- Raw: bytes as they are. -/
theorem outRaw_calls (B b : Nat) (bs : List Value) (s : ByteArray) (w : World) (h : IsBX 62 5 B b bs w) (hlen : bs.length + s.size ≤ 140737488355328) (hBw : B ≤ w.heap.size) :
    Calls Tryz.prog 24 #[.pointer (some ⟨b, 0, none⟩), .string s] w fun e w' => e = .returned (.pointer (some ⟨b, 0, none⟩)) ∧ (IsBX 62 5 B b (bs ++ Lib.strCells s) w' ∧ Apt B b w w') := by
  go_enter Tryz.func24, Tryz.ntmps24
  go_wp2_with (go_at_call 41; refine (writeStringO_calls B b bs s _ h hlen hBw).mono ?_)
  rintro e w1 ⟨rfl, h1, hb1⟩
  go_wp2
  go_ret
  exact ⟨rfl, .inr h1, hb1⟩
/-- A number's k highest bytes of m. -/
def beT (n m : Nat) : Nat → List Int
  | 0 => []
  | k + 1 => beT n m k ++ [((n / 256 ^ (m - 1 - k) % 256 : Nat) : Int)]
theorem beT_length (n m k : Nat) : (beT n m k).length = k := by
  induction k with
  | zero => rfl
  | succ k ih => rw [beT, List.length_append, ih]; rfl
theorem beT_mem (n m k : Nat) : ∀ b ∈ beT n m k, 0 ≤ b ∧ b ≤ 255 := by
  induction k with
  | zero => intro b hb; cases hb
  | succ k ih =>
    intro b hb
    rw [beT, List.mem_append] at hb
    rcases hb with hb | hb
    · exact ih b hb
    · rw [List.mem_singleton.1 hb]; omega
set_option maxHeartbeats 2000000 in
set_option maxRecDepth 100000 in
theorem put_calls (n m : Nat) (hn : n < 18446744073709551616) (hm : m ≤ 8) (B b : Nat) (bs : List Value) (w : World) (h : IsBX 62 5 B b bs w) (hlen : bs.length ≤ 100000000) (hBw : B ≤ w.heap.size) :
    Calls Tryz.prog 39 #[.pointer (some ⟨b, 0, none⟩), .int .u64 n, .int .i64 m] w fun e w' => e = .returned (.pointer (some ⟨b, 0, none⟩)) ∧ (IsBX 62 5 B b (bs ++ (beT n m m).map (Value.int .u8)) w' ∧ Apt B b w w') := by
  have HH := Lib.hid h
  clear h
  go_enter Tryz.func39, Tryz.ntmps39
  go_wp2_with fail
  go_loopw [7] (fun i wr => ∃ k : Nat, k ≤ m ∧ i = .int .i64 ((m : Int) - 1 - k) ∧ IsBX 62 5 B b (bs ++ (beT n m k).map (Value.int .u8)) wr ∧ Apt B b w wr) (fun i _ => ((intOf i) + 1).toNat)
  case atStart => exact ⟨0, by omega, by go_num, by simpa [beT] using HH.out, Apt.refl _ _ w⟩
  case round =>
    obtain ⟨k, hk, rfl, hb, hB⟩ := hrel
    have HB := Lib.hid hb
    clear hb
    by_cases hlt : k < m
    · obtain ⟨i, hi⟩ : ∃ i : Nat, (m : Int) - 1 - k = i := ⟨m - 1 - k, by omega⟩
      have hi8 : i < 8 := by omega
      have hw : IntKind.i64.wrap (8 * (i : Int)) = 8 * (i : Int) := by rw [IntKind.wrap_i64]; omega
      have hw0 : (0 : Int) ≤ 8 * (i : Int) := by omega
      have hw1 : 8 * (i : Int) ≤ 64 := by omega
      have hv : IntKind.u8.wrap ((n : Int) / 2 ^ (8 * (i : Int)).toNat) = ((n / 256 ^ (m - 1 - k) % 256 : Nat) : Int) := by
        obtain rfl : i = m - 1 - k := by omega

        rw [show (8 * ((m - 1 - k : Nat) : Int)).toNat = 8 * (m - 1 - k) by omega, IntKind.wrap_u8', Int.pow_mul, show (2 : Int) ^ 8 = 256 from rfl]
        push_cast
        rfl
      have hc : beT n m (k + 1) = beT n m k ++ [((n / 256 ^ (m - 1 - k) % 256 : Nat) : Int)] := rfl
      generalize ((n / 256 ^ (m - 1 - k) % 256 : Nat) : Int) = c at hv hc
      have HC := Lib.hid hc
      clear hc
      rw [hi]
      go_wp2_with fail
      have hl : (bs ++ (beT n m k).map (Value.int .u8)).length + 1 ≤ 140737488355328 := by rw [List.length_append, List.length_map, beT_length]; omega
      have HL := Lib.hid hl
      clear hl
      go_region_with (go_at_call 40; refine (writeByteO_calls B b _ c _ (show IsBX 62 5 B b (bs ++ (beT n m k).map (Value.int .u8)) wr.drew from HB.out) HL.out (Nat.le_trans hBw hB.size)).mono ?_; rintro e w1 ⟨rfl, h1, hb1⟩)
      all_goals
        go_wp2_with fail
        go_roundw
        case rel => exact ⟨k + 1, by omega, by go_num, .inr (by rw [HC.out, List.map_append, ← List.append_assoc]; exact h1), (hB.drew).trans hb1⟩
        case measure => simp [intOf]
    · have ii : ¬ 0 ≤ (m : Int) - 1 - k := by omega
      obtain rfl : k = m := by omega
      go_wp2_with fail
      go_ret
      exact ⟨rfl, HB.out, hB⟩
set_option maxHeartbeats 2000000 in
set_option maxRecDepth 100000 in
theorem u32_calls (n : Nat) (hn : n < 4294967296) (B b : Nat) (bs : List Value) (w : World) (h : IsBX 62 5 B b bs w) (hlen : bs.length ≤ 100000000) (hBw : B ≤ w.heap.size) :
    Calls Tryz.prog 22 #[.pointer (some ⟨b, 0, none⟩), .int .u32 n] w fun e w' => e = .returned (.pointer (some ⟨b, 0, none⟩)) ∧ (IsBX 62 5 B b (bs ++ (beT n 4 4).map (Value.int .u8)) w' ∧ Apt B b w w') := by
  have HH := Lib.hid h
  clear h
  have hw : IntKind.u64.wrap (n : Int) = n := by
    have e : IntKind.u64.wrap (n : Int) = (n : Int) % 18446744073709551616 := by simp [IntKind.wrap, IntKind.bits, IntKind.signed]
    rw [e]; omega
  go_enter Tryz.func22, Tryz.ntmps22
  go_wp2_with (go_at_call 39; refine (put_calls n 4 (by omega) (by decide) B b bs _ HH.out hlen hBw).mono ?_)
  rintro e w1 ⟨rfl, h1, hb1⟩
  have HH1 := Lib.hid h1
  clear h1
  go_wp2
  go_ret
  exact ⟨rfl, HH1.out, hb1⟩
set_option maxHeartbeats 2000000 in
set_option maxRecDepth 100000 in
theorem u64_calls (n : Nat) (hn : n < 18446744073709551616) (B b : Nat) (bs : List Value) (w : World) (h : IsBX 62 5 B b bs w) (hlen : bs.length ≤ 100000000) (hBw : B ≤ w.heap.size) :
    Calls Tryz.prog 49 #[.pointer (some ⟨b, 0, none⟩), .int .u64 n] w fun e w' => e = .returned (.pointer (some ⟨b, 0, none⟩)) ∧ (IsBX 62 5 B b (bs ++ (beT n 8 8).map (Value.int .u8)) w' ∧ Apt B b w w') := by
  have HH := Lib.hid h
  clear h
  go_enter Tryz.func49, Tryz.ntmps49
  go_wp2_with (go_at_call 39; refine (put_calls n 8 hn (by decide) B b bs _ HH.out hlen hBw).mono ?_)
  rintro e w1 ⟨rfl, h1, hb1⟩
  have HH1 := Lib.hid h1
  clear h1
  go_wp2
  go_ret
  exact ⟨rfl, HH1.out, hb1⟩
end Go.Proofs.YtfoljmpphbhobaaGreatDoor
