/- packet's nonce. -/
import Derived.Test.YtfoljmpphbhobaaGreatDoorPack1
namespace Go.Proofs.YtfoljmpphbhobaaGreatDoor
open Go.RowKit Go.Spk
set_option linter.unusedVariables false
attribute [local go_sem ↓] Go.wp_at_zero Go.wp_at_succ
theorem whole_fill {w : World} {g : Nat} {t : TypeId} {cs new : Array Value} (h : Whole w g t cs) (he : new.size = cs.size) : Whole (w.setCells g 0 new.toList) g t new := by
  have h1 : Whole w g t (([] : List Value) ++ cs.toList ++ []).toArray := by simpa using h
  have h2 := h1.splice new.toList [] cs.toList [] (by simp [he])
  simpa using h2
theorem there_whole {w : World} {g : Nat} {t : TypeId} {cs new : Array Value} (h : Whole w g t cs) (he : new.size = cs.size) : w.there g 0 new.size := fun j hj => by
  rw [Nat.zero_add]
  exact ⟨by rw [h.at_, Array.getElem?_eq_getElem (by omega)]; rfl, h.free _⟩
/-- The world behind the conversion of a string to bytes. -/
def cvW (w3 : World) (S : ByteArray) (c : Nat) : World := (w3.alloc (.cells (bytesRow S c) 5 ((bytesRow S c).size, (bytesRow S c).size + 1))).drew
theorem cv_bys (w3 : World) (S : ByteArray) (c : Nat) : Bys (cvW w3 S c) w3.heap.size 5 (bytesRow S c).size (bI S ++ List.replicate (c - S.size) 0) := by
  have h := Bys.made (w := w3) rfl S c 5
  exact h
theorem cv_range (w3 : World) (N : List Int) (c : Nat) (hN : ∀ b ∈ N, 0 ≤ b ∧ b ≤ 255) : (cvW w3 (strOfNums N) c).rangeAt w3.heap.size 0 (N.map (Value.int .u8)) := by
  intro j v hv
  have hj : j < N.length := by
    have := (List.getElem?_eq_some_iff.1 hv).1
    simpa using this
  rw [Nat.zero_add, (cv_bys w3 (strOfNums N) c).cell j (by rw [List.length_append, bI_str hN]; omega), bI_str hN, ix_append_left _ _ _ hj, ← hv]
  simp [ix, List.getD, hj]
/-- Words that the walk does not open. -/
def ByteL (m : Nat) (N : List Int) : Prop := N.length = m ∧ ∀ b ∈ N, 0 ≤ b ∧ b ≤ 255
def There (w : World) (x : Value) (m : Nat) : Prop := ∃ g, x = .pointer (some ⟨g, 0, none⟩) ∧ w.there g 0 m
def RowV (m : Nat) (y : Value) : Prop := ∃ N : List Int, N.length = m ∧ y = .agg (rowI .u8 N)
def blkOf : Value → Nat
  | .pointer (some a) => a.block
  | _ => 0
theorem ld12 (w3 : World) (N : List Int) (c : Nat) (x : Value) (hx : x = .pointer (some ⟨w3.heap.size, 0, none⟩)) (hN : ByteL 12 N) :
    (Instr.loadAt 70 x).run Tryz.prog (w3.alloc (.cells (bytesRow (strOfNums N) c) 5 ((bytesRow (strOfNums N) c).size, (bytesRow (strOfNums N) c).size + 1))).drew = .ok (.agg (rowI .u8 N)) (w3.alloc (.cells (bytesRow (strOfNums N) c) 5 ((bytesRow (strOfNums N) c).size, (bytesRow (strOfNums N) c).size + 1))).drew := by
  subst hx
  exact run_loadAt_mid (P := Tryz.prog) (cvW w3 (strOfNums N) c) w3.heap.size 0 70 (N.map (Value.int .u8)) _ (cv_range w3 N _ hN.2) Tryz.underlying70 rfl (by rw [List.length_map, hN.1]; kernel_rfl)
theorem st12 (w : World) (x y : Value) (hx : There w x 12) (hy : RowV 12 y) : (Instr.storeAt 70 x y).run Tryz.prog w = .ok () (w.setCells (blkOf x) 0 y.cells.toList) := by
  obtain ⟨g, rfl, ht⟩ := hx
  obtain ⟨N, hN, rfl⟩ := hy
  have h := run_storeAt_mid (P := Tryz.prog) w g 0 70 (rowI .u8 N) (by rw [rowI_size, hN]; exact ht) (by rw [rowI_size, hN]; kernel_rfl) (rowI_one _ _)
  exact h
theorem wp_ld12 {d : Tmp} {x : Operand} {ty : TypeId} {pos : String} {after : Array Edge} {a : Act} {w3 : World} {N : List Int} {c : Nat} {K : Act → World → Prop} {Q : Exit → Act → World → Prop} (hx : a.eval x = .pointer (some ⟨w3.heap.size, 0, none⟩)) (hN : ByteL 12 N) :
    Oper.wp Tryz.prog ⟨some d, .load 70 x, ty, pos, after, none⟩ a (w3.alloc (.cells (bytesRow (strOfNums N) c) 5 ((bytesRow (strOfNums N) c).size, (bytesRow (strOfNums N) c).size + 1))).drew K Q =
      K (a.put (some d) (.agg (rowI .u8 N))) (w3.alloc (.cells (bytesRow (strOfNums N) c) 5 ((bytesRow (strOfNums N) c).size, (bytesRow (strOfNums N) c).size + 1))).drew := by
  have h := ld12 w3 N c _ hx hN
  unfold Oper.wp
  simp only [execOp, Sem.run_bind, h, Result.andThen_ok, Sem.run_pure]
  rfl
theorem wp_st12 {x y : Operand} {ty : TypeId} {pos : String} {after : Array Edge} {a : Act} {w : World} {K : Act → World → Prop} {Q : Exit → Act → World → Prop} (hx : There w (a.eval x) 12) (hy : RowV 12 (a.eval y)) :
    Oper.wp Tryz.prog ⟨none, .store 70 x y, ty, pos, after, none⟩ a w K Q = K (a.put none undef) (w.setCells (blkOf (a.eval x)) 0 (a.eval y).cells.toList) := by
  have h := st12 w _ _ hx hy
  unfold Oper.wp
  simp only [execOp, Sem.run_bind, h, Result.andThen_ok, Sem.run_pure]
  rfl
attribute [local go_sem ↓] wp_ld12 wp_st12
theorem nonceN_length (n : Nat) : (nonceN n).length = 12 := by unfold nonceN; rw [List.length_append, beT_length, beT_length]
theorem nonceN_mem (n : Nat) : ∀ b ∈ nonceN n, 0 ≤ b ∧ b ≤ 255 := by
  intro b hb
  unfold nonceN at hb
  rcases List.mem_append.1 hb with h | h <;> exact beT_mem _ _ _ b h
set_option maxRecDepth 100000 in
set_option maxHeartbeats 2000000 in
theorem nonce_calls (g n : Nat) (b : Bool) (ks : List Int) (T : TypeId) (rest : Array Value) (hn : n < 18446744073709551616) (w : World) (h : Whole w g T (lineRow n b ks ++ rest)) :
    Calls Tryz.prog 28 #[.pointer (some ⟨g, 0, none⟩)] w fun e w' => e = .returned (.agg (rowI .u8 (nonceN n))) ∧ Below w.heap.size w w' := by
  obtain ⟨N, hN⟩ : ∃ N, N = nonceN n := ⟨_, rfl⟩
  have hNl : N.length = 12 := by rw [hN]; exact nonceN_length n
  have hNm : ∀ b ∈ N, 0 ≤ b ∧ b ≤ 255 := by rw [hN]; exact nonceN_mem n
  have hNs : (strOfNums N).size = 12 := by rw [str_size, hNl]
  have H12 := Lib.hid (show (Tryz.prog.info? 70).map (·.size) = some (rowI .u8 N).size by rw [rowI_size, hNl]; kernel_rfl)
  have H12L := Lib.hid (show (Tryz.prog.info? 70).map (·.size) = some (N.map (Value.int .u8)).length by rw [List.length_map, hNl]; kernel_rfl)
  rw [← hN]
  have HN := Lib.hid hN; have HNL := Lib.hid hNl; have HNM := Lib.hid hNm; have HNS := Lib.hid hNs
  have HG := Lib.hid h.inside; have HC := Lib.hid (line_cells h).1
  have HW := Lib.hid hn
  clear hN hNl hNm hNs h hn
  go_enter Tryz.func28, Tryz.ntmps28
  go_wp2_with fail
  generalize hW : (w.alloc _).alloc _ = W0
  have hF : Below w.heap.size w W0 ∧ Whole W0 w.heap.size 70 (rowI .u8 (List.replicate 12 0)) ∧ Whole W0 (w.heap.size + 1) 62 #[.pointer none, .slice none 0 0] := by
    subst hW; exact ⟨by go_grown, (Whole.new rfl rfl).alloc _, Whole.new (by simp) rfl⟩
  have c0 : W0.drew.cell? ⟨g, 0, none⟩ = some (.int .u64 n) := (hF.1.cell (p := ⟨g, 0, none⟩) HG.out).trans HC.out
  have HF := Lib.hid hF
  have HBX := Lib.hid (show IsBX 62 5 (w.heap.size + 1) (w.heap.size + 1) [] W0.drew from BX.fresh _ hF.2.2)
  have HT := Lib.hid (show ∀ (w1 w2 w3 : World) (c : Nat), Apt (w.heap.size + 1) (w.heap.size + 1) W0.drew w1 → Apt (w.heap.size + 1) (w.heap.size + 1) w1 w2 → Apt (w.heap.size + 1) (w.heap.size + 1) w2 w3 → Whole (cvW w3 (strOfNums N) c) w.heap.size 70 (rowI .u8 (List.replicate 12 0)) ∧ Below w.heap.size w (cvW w3 (strOfNums N) c) from fun w1 w2 w3 c a1 a2 a3 => by
    have hb := ((a1.trans a2).trans a3).below (C := w.heap.size + 1) (Nat.le_refl _) (Nat.le_refl _)
    have h0 : Whole w3 w.heap.size 70 (rowI .u8 (List.replicate 12 0)) := Whole.below (w := W0.drew) hF.2.1 hb (Nat.lt_succ_self _)
    exact ⟨(h0.alloc _).drew, below_drawnN (((below_drawnN hF.1 1).trans ((hb.mono (Nat.le_succ _)))).alloc (Nat.le_of_lt h0.inside) _) 1⟩)
  clear hW hF
  go_region_with (first
    | (go_at_call 22; refine (u32_calls 0 (by decide) _ _ _ _ HBX.out (by simp) (by have := HF.out.2.2.inside; show _ ≤ W0.heap.size; omega)).mono ?_; rintro e w1 ⟨rfl, h1, a1⟩; have c1 : w1.cell? ⟨g, 0, none⟩ = some (.int .u64 n) := ((a1.below (Nat.le_succ _) (Nat.le_succ _)).cell (p := ⟨g, 0, none⟩) HG.out).trans c0; have HB1 := Lib.hid h1; have HA1 := Lib.hid a1; clear h1 a1)
    | (go_at_call 49; refine (u64_calls n HW.out _ _ _ _ HB1.out (by simp [beT]) (by have := HF.out.2.2.inside; have := HA1.out.size; exact Nat.le_trans (Nat.le_of_lt ‹_›) this)).mono ?_; rintro e w2 ⟨rfl, h2, a2⟩; have c2 : w2.cell? ⟨g, 0, none⟩ = some (.int .u64 n) := ((a2.below (Nat.le_succ _) (Nat.le_succ _)).cell (p := ⟨g, 0, none⟩) HG.out).trans c1; have HB2 := Lib.hid h2; have HA2 := Lib.hid a2; clear h2 a2)
    | (go_at_call 26; refine (outBytes_calls _ _ N HNM.out _ (by have h := IsBXF.of HB2.out; rw [List.nil_append, ← List.map_append, show beT 0 4 4 ++ beT n 8 8 = N from HN.out.symm] at h; exact h) (fun e => by have := HNL.out; rw [e] at this; cases this)).mono ?_; rintro e w3 ⟨rfl, h3, a3⟩; have c3 : w3.cell? ⟨g, 0, none⟩ = some (.int .u64 n) := ((a3.below (Nat.le_succ _) (Nat.le_succ _)).cell (p := ⟨g, 0, none⟩) HG.out).trans c2; have HA3 := Lib.hid a3; have hNs := HNS.out; have hcv := run_bytes_of_string (P := Tryz.prog) w3 9 33 5 (strOfNums N) Tryz.underlying9 Tryz.underlying33 Tryz.underlying5; have hat := run_arrayAt (P := Tryz.prog) (w := cvW w3 (strOfNums N) (grownCap w3 12 0 5)) 70 5 12 (some ⟨w3.heap.size, 0, none⟩) 12 (grownCap w3 12 0 5) Tryz.underlying70 (by decide); have hBL : ByteL 12 N := ⟨HNL.out, HNM.out⟩; have hTh : There (cvW w3 (strOfNums N) (grownCap w3 12 0 5)) (.pointer (some ⟨w.heap.size, 0, none⟩)) 12 := ⟨_, rfl, by have h := there_whole (new := rowI .u8 N) (HT.out _ _ w3 (grownCap w3 12 0 5) HA1.out HA2.out a3).1 (by simp [rowI, HNL.out]); rw [rowI_size, HNL.out] at h; exact h⟩; have hRV : RowV 12 (.agg (rowI .u8 N)) := ⟨N, HNL.out, rfl⟩; unfold cvW at hat hTh; clear h3 a3))
  all_goals
    clear hcv hat hTh hRV hBL hNs c1 c2 c3
    generalize grownCap w3 12 0 5 = c
    generalize hW : World.setCells _ _ _ _ = W
    have hfin : Whole W w.heap.size 70 (rowI .u8 N) ∧ Below w.heap.size w W := by
      subst hW
      obtain ⟨q1, q2⟩ := HT.out w1 w2 w3 c HA1.out HA2.out HA3.out
      exact ⟨whole_fill q1 (by rw [rowI_size, rowI_size, HNL.out]; rfl), q2.grown (only_cells _ _ _ _) q2.size (fun k hk => by injection hk with hk; subst hk; exact Nat.le_refl _)⟩
    have HFW := Lib.hid hfin
    clear hfin hW
    go_wp2_with fail
    exact bodyPost_ret (results_cell_row (fn := Tryz.f28) (p := 2) rfl _ _ w.heap.size 70 (rowI .u8 N) (0, 0) _ rfl HFW.out.1 Tryz.underlying70 rfl H12.out) rfl ⟨rfl, HFW.out.2⟩
end Go.Proofs.YtfoljmpphbhobaaGreatDoor
