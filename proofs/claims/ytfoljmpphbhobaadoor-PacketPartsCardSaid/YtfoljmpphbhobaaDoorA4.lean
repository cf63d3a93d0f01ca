/- The walks of strings.Builder's copyCheck, WriteByte, WriteString over this program, after the shelf's own. · The walks of sha2.Hex and of Cut. · The walk of speakeasylaw03.awake: it answers true. · The walk of ChachaBlocks: it answers true. · The walk of ChachaXors: it answers true. -/
import Derived.Test.YtfoljmpphbhobaaDoorProg
import Derived.Test.YtfoljmpphbhobaaDoorA1
import Derived.Test.YtfoljmpphbhobaaDoorShelf
import Derived.Test.YtfoljmpphbhobaaDoorA2
import Derived.Lib.Builder
import Derived.Lib.AppendStr
import Derived.Lib.Strings
import Derived.LoopTactic
import Derived.Handy
import Derived.Outline
import Derived.Lib.Hide
import Derived.Laws.BitsAllLaws
import Derived.Laws.Bits64
namespace Go.Proofs.YtfoljmpphbhobaaDoor
open Go.RowKit Go.Spk
set_option linter.unusedVariables false
theorem bldSize : (Tryd.prog.info? 106).map (·.size) = some 2 := by kernel_rfl
theorem bldLies : liesAt Tryd.prog Tryd.prog.depth 106 (2 / Tryd.prog.cellsOf 106) 0 106 1 = true := by kernel_rfl
set_option maxRecDepth 100000 in
set_option maxHeartbeats 1000000 in
theorem check_used (b : Nat) (w : World) (h0 : w.cell? ⟨b, 0, none⟩ = some (.pointer (some ⟨b, 0, none⟩))) :
    Calls Tryd.prog 93 #[.pointer (some ⟨b, 0, none⟩)] w fun e w' => e = .returned (.tuple #[]) ∧ w' = w := by
  obtain ⟨j, hj, _⟩ := Option.map_eq_some_iff.1 bldSize
  go_enter Tryd.func93, Tryd.ntmps93
  go_wp2
  rw [Lib.run_neq_ptr_same (P := Tryd.prog) (w := w) _ Tryd.underlying104 hj]
  go_wp2
  go_end0
  exact ⟨rfl, rfl⟩
set_option maxRecDepth 100000 in
set_option maxHeartbeats 1000000 in
theorem check_fresh (b : Nat) (w : World) (h0 : w.cell? ⟨b, 0, none⟩ = some (.pointer none)) (hsh : w.shape? b = some (106, 2)) (hfz : w.frozen? ⟨b, 0, none⟩ = false) :
    Calls Tryd.prog 93 #[.pointer (some ⟨b, 0, none⟩)] w fun e w' => e = .returned (.tuple #[]) ∧ w' = w.setCell ⟨b, 0, none⟩ (.pointer (some ⟨b, 0, none⟩)) := by
  obtain ⟨j, hj, hjs⟩ := Option.map_eq_some_iff.1 bldSize
  go_enter Tryd.func93, Tryd.ntmps93
  go_wp2
  rw [Lib.run_to_unsafe (P := Tryd.prog) (w := w) ⟨b, 0, none⟩ Tryd.underlying104 Tryd.underlying168 hj (by rw [hjs]; decide) hsh (Nat.zero_lt_succ 1)]
  simp only [Result.andThen]
  rw [Oper.upon_value]
  go_wp2
  rw [run_callFunc_extern Tryd.func99 (by kernel_rfl) (by kernel_rfl) (by kernel_rfl) (e := Extern.AbiNoEscape.same) (by kernel_rfl)]
  rw [Lib.run_noEscape]
  simp only [Result.andThen]
  rw [Oper.upon_value]
  go_wp2
  rw [Lib.run_from_unsafe (P := Tryd.prog) (w := w) ⟨b, 0, none⟩ Tryd.underlying168 Tryd.underlying104 hj hsh bldLies]
  simp only [Result.andThen]
  rw [Oper.upon_value]
  go_wp2
  go_end0
  exact ⟨rfl, rfl⟩
theorem copyCheck_calls (B b : Nat) (bs : List Value) (w : World) (h : Lib.IsBuilder 106 5 B b bs w) :
    Calls Tryd.prog 93 #[.pointer (some ⟨b, 0, none⟩)] w fun e w' => e = .returned (.tuple #[]) ∧ (Lib.BuilderAt 106 5 B b (.pointer (some ⟨b, 0, none⟩)) bs w' ∧ w.grownBy w' (some b)) := by
  rcases h with h | h
  · refine (check_fresh b w h.cell0 h.shape h.frozen0).mono ?_
    rintro e w' ⟨rfl, rfl⟩
    exact ⟨rfl, h.used _, only_stored _ rfl _⟩
  · refine (check_used b w h.cell0).mono ?_
    rintro e w' ⟨rfl, rfl⟩
    exact ⟨rfl, h, World.grownBy.refl _ _⟩
theorem infoByte : (Tryd.prog.info? 5).map (fun i => (i.zero, i.size, i.bytes)) = some (some (.int .u8 0), 1, 1) := by kernel_rfl
set_option maxRecDepth 100000 in
set_option maxHeartbeats 2000000 in
/-- WriteByte: the builder holds one byte more; nothing below B has changed. -/
theorem writeByte_calls (B b : Nat) (bs : List Value) (c : Int) (w : World) (h : Lib.IsBuilder 106 5 B b bs w) (hlen : bs.length + 1 ≤ 140737488355328) (hBw : B ≤ w.heap.size) :
    Calls Tryd.prog 70 #[.pointer (some ⟨b, 0, none⟩), .int .u8 c] w fun e w' => e = .returned .nilIface ∧ (Lib.BuilderAt 106 5 B b (.pointer (some ⟨b, 0, none⟩)) (bs ++ [.int .u8 c]) w' ∧ Below B w w') := by
  obtain ⟨i0, hi, hz0, hz1, hz2⟩ := info_parts infoByte
  go_enter Tryd.func70, Tryd.ntmps70
  go_wp2_with (go_at_call 93; refine (copyCheck_calls B b bs _ h).mono ?_)
  rintro e w1 ⟨rfl, h1, hb0⟩
  have hbB : B ≤ b := by rcases h with h | h <;> exact h.1
  have hb1 : Below B w w1 := (Below.refl B w).grown hb0 hBw (fun k hk => by injection hk with hk; omega)
  obtain ⟨hB, v, hbk, hown, hne⟩ := h1
  have c0 : w1.cell? ⟨b, 0, none⟩ = some (.pointer (some ⟨b, 0, none⟩)) := by rw [Lib.cell_of_heap hbk]; rfl
  have c1 : w1.cell? ⟨b, 1, none⟩ = some v := by rw [Lib.cell_of_heap hbk]; rfl
  go_wp2_with (at_builtin; refine wpList_append_own _ rfl _ _ 28 rfl B 5 i0 (.int .u8 0) 1 1 Tryd.underlying28 hi hz0 hz1 hz2 rfl (by decide) _ _ _ rfl (hown.alloc _) ⟨w1.heap.size, 0, none⟩ 1 1 [.int .u8 c] rfl rfl ?c1 ?c2 ?c3 ?c4 ?c5 ?_)
  case c1 =>
    intro j u hj
    match j, hj with
    | 0, hj => simp at hj; subst hj; simp [Addr.add]
  case c2 => intro u hu; simp at hu; subst hu; rfl
  case c3 => unfold maxLen; omega
  case c4 => omega
  case c5 => have := hb1.size; simp; omega
  intro v' w2 hown' hgrow _
  have hlt : b < w1.heap.size := Whole.inside (t := 106) (cs := #[.pointer (some ⟨b, 0, none⟩), v]) hbk
  have hb2 : w2.heap[b]? = some (.cells #[.pointer (some ⟨b, 0, none⟩), v] 106 (0, 0)) := by
    rw [hgrow.block b (by simp; omega) (fun e => hne e.symm), Lib.alloc_old w1 _ b hlt]
    exact hbk
  have d0 : w2.cell? ⟨b, 0, none⟩ = some (.pointer (some ⟨b, 0, none⟩)) := by rw [Lib.cell_of_heap hb2]; rfl
  have d1 : w2.cell? ⟨b, 1, none⟩ = some v := by rw [Lib.cell_of_heap hb2]; rfl
  have f1 : w2.frozen? ⟨b, 1, none⟩ = false := Lib.frozen_of_heap hb2 1
  obtain ⟨g, cap, rfl⟩ : ∃ g cap, v' = .slice (some ⟨g, 0, none⟩) (bs.length + 1) cap := by
    rcases hown'.2 with ⟨_, h0⟩ | ⟨g, cap, cur, hv, _⟩
    · omega
    · exact ⟨g, cap, hv⟩
  go_wp2
  go_ret
  refine ⟨rfl, ?_, ?_⟩
  · exact Lib.BuilderAt.put (T := 106) (e := 5) hB hb2 (bs' := bs ++ [.int .u8 c]) (by simpa using hown') (by decide)
  · exact ((hb1.alloc (by have := hb1.size; omega) _).grown hgrow (by have := hb1.size; simp; omega) (fun k hk => (hown.lt k hk).1)).setCell (p := ⟨b, 1, none⟩) hB _
set_option maxRecDepth 100000 in
set_option maxHeartbeats 2000000 in
/-- WriteString: the builder holds the string's bytes besides; nothing below B has changed. -/
theorem writeString_calls (B b : Nat) (bs : List Value) (s : ByteArray) (w : World) (h : Lib.IsBuilder 106 5 B b bs w) (hlen : bs.length + s.size ≤ 140737488355328) (hBw : B ≤ w.heap.size) :
    Calls Tryd.prog 80 #[.pointer (some ⟨b, 0, none⟩), .string s] w fun e w' => e = .returned (.tuple #[.int .i64 s.size, .nilIface]) ∧ (Lib.BuilderAt 106 5 B b (.pointer (some ⟨b, 0, none⟩)) (bs ++ Lib.strCells s) w' ∧ Below B w w') := by
  obtain ⟨i0, hi, hz0, hz1, hz2⟩ := info_parts infoByte
  go_enter Tryd.func80, Tryd.ntmps80
  go_wp2_with (go_at_call 93; refine (copyCheck_calls B b bs _ h).mono ?_)
  rintro e w1 ⟨rfl, h1, hb0⟩
  have hbB : B ≤ b := by rcases h with h | h <;> exact h.1
  have hb1 : Below B w w1 := (Below.refl B w).grown hb0 hBw (fun k hk => by injection hk with hk; omega)
  obtain ⟨hB, v, hbk, hown, hne⟩ := h1
  have c0 : w1.cell? ⟨b, 0, none⟩ = some (.pointer (some ⟨b, 0, none⟩)) := by rw [Lib.cell_of_heap hbk]; rfl
  have c1 : w1.cell? ⟨b, 1, none⟩ = some v := by rw [Lib.cell_of_heap hbk]; rfl
  go_wp2_with (at_builtin; refine Lib.wpList_append_own_string _ rfl _ _ 28 9 rfl B 5 i0 Tryd.underlying28 Tryd.underlying9 hi hz0 hz1 hz2 _ _ _ rfl hown s rfl ?c3 ?c4 ?c5 ?_)
  case c3 => unfold maxLen; omega
  case c4 => omega
  case c5 => have := hb1.size; omega
  intro v' w2 hown' hgrow _
  have hlt : b < w1.heap.size := Whole.inside (t := 106) (cs := #[.pointer (some ⟨b, 0, none⟩), v]) hbk
  have hb2 : w2.heap[b]? = some (.cells #[.pointer (some ⟨b, 0, none⟩), v] 106 (0, 0)) := by
    rw [hgrow.block b hlt (fun e => hne e.symm)]
    exact hbk
  have d0 : w2.cell? ⟨b, 0, none⟩ = some (.pointer (some ⟨b, 0, none⟩)) := by rw [Lib.cell_of_heap hb2]; rfl
  have d1 : w2.cell? ⟨b, 1, none⟩ = some v := by rw [Lib.cell_of_heap hb2]; rfl
  have f1 : w2.frozen? ⟨b, 1, none⟩ = false := Lib.frozen_of_heap hb2 1
  obtain ⟨ao, n', cap, rfl⟩ : ∃ ao n' cap, v' = .slice ao n' cap := by
    rcases hown'.2 with ⟨hv, _⟩ | ⟨g, cap, cur, hv, _⟩
    · exact ⟨_, _, _, hv⟩
    · exact ⟨_, _, _, hv⟩
  go_wp2
  go_ret2
  refine ⟨rfl, ?_, ?_⟩
  · exact Lib.BuilderAt.put (T := 106) (e := 5) hB hb2 (bs' := bs ++ Lib.strCells s) (by simpa [Lib.strCells_length] using hown') (by decide)
  · exact (hb1.grown hgrow (by have := hb1.size; omega) (fun k hk => (hown.lt k hk).1)).setCell (p := ⟨b, 1, none⟩) hB _
end Go.Proofs.YtfoljmpphbhobaaDoor
namespace Go.Proofs.YtfoljmpphbhobaaDoor
open Go.RowKit Go.Spk
set_option linter.unusedVariables false
theorem byteCells_of {xs : List Int} (h : ∀ b ∈ xs, 0 ≤ b ∧ b ≤ 255) : xs.map (Value.int .u8) = Lib.byteCells (xs.map fun n => UInt8.ofNat n.toNat) := by
  unfold Lib.byteCells
  rw [List.map_map]
  apply List.map_congr_left
  intro b hb
  have := h b hb
  simp
  omega
theorem and15 (x : Int) (h0 : 0 ≤ x) (h1 : x ≤ 255) : bits BinOp.and IntKind.u8 x 15 = x % 16 := by
  obtain ⟨n, rfl⟩ := Int.eq_ofNat_of_zero_le h0
  have := u8_and_nat n 15 (by omega) (by omega)
  rw [nat_mask4] at this
  rw [show ((15 : Nat) : Int) = 15 from rfl] at this
  rw [this]; omega
def digI (n : Nat) : Int := ix [48, 49, 50, 51, 52, 53, 54, 55, 56, 57, 97, 98, 99, 100, 101, 102] n
theorem digI_bd (n : Nat) : 0 ≤ digI n ∧ digI n ≤ 255 := ix_bytes (by decide) n
def hexI (ws : List Int) : Nat → List Int
  | 0 => []
  | k + 1 => hexI ws k ++ [digI (ix ws k / 16).toNat, digI (ix ws k % 16).toNat]
theorem hexI_mem (ws : List Int) (k : Nat) : ∀ b ∈ hexI ws k, 0 ≤ b ∧ b ≤ 255 := by
  induction k with
  | zero => intro b hb; simp [hexI] at hb
  | succ k ih =>
    intro b hb
    simp only [hexI, List.mem_append, List.mem_cons, List.not_mem_nil, or_false] at hb
    rcases hb with hb | rfl | rfl
    · exact ih b hb
    · exact digI_bd _
    · exact digI_bd _
theorem hexI_length (ws : List Int) (k : Nat) : (hexI ws k).length = 2 * k := by
  induction k with
  | zero => rfl
  | succ k ih => simp [hexI, ih]; omega
set_option maxRecDepth 100000 in
set_option maxHeartbeats 2000000 in
theorem hex_calls (s : ByteArray) (hs : s.size ≤ 1000000000) (w : World) :
    Calls Tryd.prog 35 #[.string s] w fun e w' => e = .returned (.string (strOfNums (hexI (bI s) s.size))) ∧ Below w.heap.size w w' := by
  have gs : ∀ (n : Nat) (h : n < s.size), ((s[n]'h).toNat : Int) = ix (bI s) n := fun n h => (ix_bI s n h).symm
  have gd : ∀ (n : Nat) (h : n < (ByteArray.mk #[48, 49, 50, 51, 52, 53, 54, 55, 56, 57, 97, 98, 99, 100, 101, 102]).size), (((ByteArray.mk #[48, 49, 50, 51, 52, 53, 54, 55, 56, 57, 97, 98, 99, 100, 101, 102])[n]'h).toNat : Int) = digI n := fun n h => (ix_bI _ n h).symm
  go_enter Tryd.func35, Tryd.ntmps35
  go_wp2_with fail
  have h0 := Lib.fresh_isBuilder 106 5 w
  go_loopw [7] (fun i wr => ∃ k : Nat, k ≤ s.size ∧ i = .int .i64 k ∧ Lib.IsBuilder 106 5 w.heap.size w.heap.size ((hexI (bI s) k).map (Value.int .u8)) wr ∧ Below w.heap.size w wr) (fun i _ => s.size - (intOf i).toNat)
  case atStart => exact ⟨0, by omega, rfl, h0, (Below.refl _ w).alloc (Nat.le_refl _) _⟩
  case round =>
    clear h0
    obtain ⟨k, hk, rfl, hb, hB⟩ := hrel
    by_cases hlt : k < s.size
    · have ii : (k : Int) < s.size := by omega
      have hu := U8s_bI s k
      obtain ⟨u0, u1⟩ := hu
      have d1 : ix (bI s) k / 16 < 16 := by omega
      have d0 : 0 ≤ ix (bI s) k / 16 := by omega
      have e15 := and15 _ u0 u1
      have d2 : ix (bI s) k % 16 < 16 := by omega
      have d3 : 0 ≤ ix (bI s) k % 16 := by omega
      have hl := hexI_length (bI s) k
      have HL := Lib.hid hl
      clear hl
      go_wp2_with fail
      refine (writeByte_calls w.heap.size w.heap.size _ _ _ hb (by simp [HL.out]; omega) hB.size).mono ?_
      rintro e w1 ⟨rfl, hb1, hB1⟩
      go_wp2_with fail
      refine (writeByte_calls w.heap.size w.heap.size _ _ _ (.inr hb1) (by simp [HL.out]; omega) (by have := hB.size; have := hB1.size; omega)).mono ?_
      rintro e w2 ⟨rfl, hb2, hB2⟩
      go_wp2_with fail
      go_roundw
      case rel => exact ⟨k + 1, by omega, by go_num, .inr (by rw [hexI]; simpa using hb2), (hB.trans hB1).trans hB2⟩
      case measure => simp [intOf]; omega
    · obtain rfl : k = s.size := by omega
      rw [byteCells_of (hexI_mem _ _)] at hb
      go_wp2_with fail
      refine (Tryd.Builder_String_any w.heap.size w.heap.size _ _ hb hB.size).mono ?_
      rintro e w1 ⟨rfl, hB1⟩
      go_wp2
      go_ret
      exact ⟨rfl, hB.trans hB1⟩
theorem cut_calls (s : ByteArray) (n : Nat) (hn : n ≤ 1000000000) (w : World) :
    Calls Tryd.prog 16 #[.string s, .int .i64 n] w fun e w' => (∃ t : ByteArray, e = .returned (.string t) ∧ bI t = (bI s).take n ∧ t.size ≤ n) ∧ w = w' := by
  by_cases h : n < s.size
  · have hi : (n : Int) < s.size := by omega
    have hi2 : (n : Int) ≤ s.size := by omega
    go_enter Tryd.func16, Tryd.ntmps16
    go_wp2
    go_ret
    refine ⟨⟨_, rfl, ?_, ?_⟩, rfl⟩
    · show (bI (s.extract 0 n)) = _
      simp [bI]
    · show (s.extract 0 n).size ≤ n
      simp
      omega
  · have hi : ¬ (n : Int) < s.size := by omega
    go_enter Tryd.func16, Tryd.ntmps16
    go_wp2
    go_ret
    exact ⟨⟨s, rfl, by rw [List.take_of_length_le (by rw [bI_length]; omega)], by omega⟩, rfl⟩
end Go.Proofs.YtfoljmpphbhobaaDoor
namespace Go.Proofs.YtfoljmpphbhobaaDoor
open Go.RowKit Go.Spk
set_option linter.unusedVariables false
/-- The key 0, 1, .., n-1, of 32 places. -/
def keyUp : Nat → List Int
  | 0 => List.replicate 32 0
  | n + 1 => (keyUp n).set n (n : Int)
theorem keyUp_length (n : Nat) : (keyUp n).length = 32 := by
  induction n with
  | zero => rfl
  | succ n ih => simp [keyUp, ih]
def nonceA : List Int := [0, 0, 0, 9, 0, 0, 0, 74, 0, 0, 0, 0]
theorem U8s_of {ws : List Int} (h : ws.all (fun b => decide (0 ≤ b ∧ b ≤ 255)) = true) : U8s ws := fun i => ix_bytes (by simpa using h) i
theorem awake_val : strOfNums (hexI (bI (strOfNums ((blockI (keyUp 32) 1 nonceA).take 16))) 16) = ByteArray.mk #[49, 48, 102, 49, 101, 55, 101, 52, 100, 49, 51, 98, 53, 57, 49, 53, 53, 48, 48, 102, 100, 100, 49, 102, 97, 51, 50, 48, 55, 49, 99, 52] := by
  decide +kernel
theorem sliced (w : World) (g : Nat) (t : TypeId) (Z : List Int) (h : Whole w g t (rowI .u8 Z)) (n : Nat) (hn : n ≤ Z.length) (hZ : n = ((Z.take n).length)) :
    ∀ q, q < n → w.cell? ⟨g, 0 + q, none⟩ = some (.int .u8 ((Z.take n).getD q 0)) := fun q hq => by
  rw [Nat.zero_add, h.at_, rowI_get .u8 Z q (by omega)]
  congr 2
  unfold ix
  simp [List.getD, hq]
set_option maxRecDepth 100000 in
set_option maxHeartbeats 1000000 in
theorem awake_calls (w : World)
   (t0 : w.rangeAt 0 0 (beginI.map (Value.int .u32))) (t1 : w.rangeAt 1 0 orderC) :
    Calls Tryd.prog 13 #[] w fun e w' => e = .returned (.bool true) ∧ Below w.heap.size w w' := by
  have T0 := Lib.hid t0; have T1 := Lib.hid t1; clear t0 t1
  go_enter Tryd.func13, Tryd.ntmps13
  go_wp2_with fail
  have h0 : Upd (w.alloc (Obj.cells (rowI IntKind.u8 (List.replicate 32 0)) 22)) (w.alloc (Obj.cells (rowI IntKind.u8 (List.replicate 32 0)) 22)) w.heap.size 22 .u8 (keyUp 0) := Upd.start (Whole.new rfl rfl)
  have b0 : Below w.heap.size w (w.alloc (Obj.cells (rowI IntKind.u8 (List.replicate 32 0)) 22)) := by go_grown
  have s0 : w.heap.size ≤ (w.alloc (Obj.cells (rowI IntKind.u8 (List.replicate 32 0)) 22)).heap.size := by simp
  obtain ⟨w1, hw1⟩ : ∃ w1, w1 = w.alloc (Obj.cells (rowI IntKind.u8 (List.replicate 32 0)) 22) := ⟨_, rfl⟩
  rw [← hw1] at h0 b0 s0
  go_loopw [4] (fun i wr => ∃ k : Nat, k ≤ 32 ∧ i = .int .i64 k ∧ Upd w1 wr w.heap.size 22 .u8 (keyUp k)) (fun i _ => 32 - (intOf i).toNat)
  case atStart => exact ⟨0, by omega, rfl, hw1 ▸ h0⟩
  case round =>
    obtain ⟨k, hk, rfl, U⟩ := hrel
    by_cases hlt : k < 32
    · have cO := U.cell k (by rw [keyUp_length]; exact hlt)
      have fO := U.frozen k
      go_wp2_with fail
      go_roundw
      case rel => exact ⟨k + 1, by omega, by go_num, U.set k _⟩
      case measure => simp [intOf]; omega
    · obtain rfl : k = 32 := by omega
      rw [show ((32 : Nat) : Int) = 32 from rfl]
      have hB := U.below b0 (Nat.le_refl _) s0
      have hb := U.blk
      clear h0 s0 b0
      go_wp2_with (refine wpList_load_row rfl 22 (.tmp 1) rfl _ rfl 22 (rowI .u8 (keyUp 32)) (0, 0) _ hb Tryd.underlying22 rfl (by kernel_rfl) ?_)
      refine (block_calls (keyUp 32) nonceA 1 (keyUp_length _) rfl (U8s_of (by decide +kernel)) (U8s_of (by decide +kernel)) _ (rangeAt_below T0.out hB) (rangeAt_below T1.out hB)).mono ?_
      rintro e w2 ⟨rfl, hB2⟩
      obtain ⟨Z, hZ⟩ : ∃ Z, Z = blockI (keyUp 32) 1 nonceA := ⟨_, rfl⟩
      have hZl : Z.length = 64 := by rw [hZ]; exact blockI_length _ _ _
      rw [← hZ]
      have HZ := Lib.hid hZ
      have hs3 : (Tryd.prog.info? 26).map (·.size) = some (rowI .u8 Z).size := by rw [rowI_size, hZl]; kernel_rfl
      have H3 := Lib.hid hs3; have HZL := Lib.hid hZl
      clear hs3 hZl hZ
      have hz2 := hB2.size
      have h1 : Below w.heap.size w w2 := hB.trans (hB2.mono hB.size)
      have HC := Lib.hid h1
      clear h1 hB hB2 hz2
      go_wp2_with (refine wpList_store_row rfl 26 (.tmp 3) (.tmp 14) rfl w2.heap.size (rowI .u8 Z) rfl rfl 26 _ (heap_alloc_new _ _) H3.out (by rw [rowI_size, HZL.out]; rfl) (rowI_one _ _) ?_
                   refine name_ops (fun W => Below w.heap.size w W ∧ Whole W w2.heap.size 26 (rowI .u8 Z)) ⟨(HC.out.alloc HC.out.size _).grown (only_row _ _ _) (by simp; exact Nat.le_succ_of_le HC.out.size) (fun k hk => by injection hk with hk; subst hk; exact HC.out.size), Whole.row (Whole.new (cs' := _) rfl rfl)⟩ ?_
                   intro W hFW
                   have hrun := run_convert_bytes_arg (P := Tryd.prog) W 28 5 Tryd.underlying28 Tryd.underlying5 w2.heap.size 0 16 64 (Z.take 16) (by rw [List.length_take, HZL.out]; rfl) (sliced W _ _ Z hFW.2 16 (by rw [HZL.out]; decide) (by rw [List.length_take, HZL.out]; rfl)) 9 Tryd.underlying9
                   have HFW := Lib.hid hFW
                   clear hFW)
      have hsz : (strOfNums (Z.take 16)).size = 16 := by simp [strOfNums, ByteArray.size, HZL.out]
      refine (hex_calls (strOfNums (Z.take 16)) (by omega) _).mono ?_
      rintro e w3 ⟨rfl, hB3⟩
      have hval : strOfNums (hexI (bI (strOfNums (Z.take 16))) (strOfNums (Z.take 16)).size) = ByteArray.mk #[49, 48, 102, 49, 101, 55, 101, 52, 100, 49, 51, 98, 53, 57, 49, 53, 53, 48, 48, 102, 100, 100, 49, 102, 97, 51, 50, 48, 55, 49, 99, 52] := by
        rw [hsz, HZ.out]; exact awake_val
      clear hrun
      rw [hval]
      clear hval
      go_wp2_with fail
      go_ret
      exact ⟨rfl, HFW.out.1.trans (hB3.mono HFW.out.1.size)⟩
end Go.Proofs.YtfoljmpphbhobaaDoor
namespace Go.Proofs.YtfoljmpphbhobaaDoor
open Go.RowKit Go.Spk
set_option linter.unusedVariables false
theorem whole_sliced (w : World) (g : Nat) (t : TypeId) (Z : List Int) (n : Nat) (h : Whole w g t (rowI .u8 Z)) (hn : Z.length = n) :
    ∀ q, q < n → w.cell? ⟨g, 0 + q, none⟩ = some (.int .u8 (Z.getD q 0)) := fun q hq => by
  rw [Nat.zero_add, h.at_, rowI_get .u8 Z q (by omega)]; rfl
set_option maxRecDepth 100000 in
set_option maxHeartbeats 1000000 in
theorem blocks_calls (ks ns : List Int) (ctr : Int) (hk : ks.length = 32) (hn : ns.length = 12) (bk : ∀ b ∈ ks, 0 ≤ b ∧ b ≤ 255) (bn : ∀ b ∈ ns, 0 ≤ b ∧ b ≤ 255) (hc0 : 0 ≤ ctr) (hc1 : ctr < 4294967296) (w : World)
   (t0 : w.rangeAt 0 0 (beginI.map (Value.int .u32))) (t1 : w.rangeAt 1 0 orderC) :
    Calls Tryd.prog 3 #[.agg (rowI .u8 ks), .int .u32 ctr, .agg (rowI .u8 ns)] w fun e w' => e = .returned (.bool true) ∧ Below w.heap.size w w' := by
  have T0 := Lib.hid t0; have T1 := Lib.hid t1; clear t0 t1
  have HK := Lib.hid hk; have HN := Lib.hid hn; clear hk hn
  have BK := Lib.hid bk; have BN := Lib.hid bn; clear bk bn
  go_enter Tryd.func3, Tryd.ntmps3
  go_wp2_with fail
  generalize hW1 : (w.alloc (Obj.cells (rowI IntKind.u8 ks) 22)).alloc (Obj.cells (rowI IntKind.u8 ns) 24) = W1
  have hF1 : Below w.heap.size w W1 ∧ Whole W1 w.heap.size 22 (rowI .u8 ks) ∧ Whole W1 (w.heap.size + 1) 24 (rowI .u8 ns) ∧ w.heap.size + 1 < W1.heap.size := by
    subst hW1
    exact ⟨by go_grown, (Whole.new rfl rfl).alloc _, Whole.new (by simp) rfl, by simp⟩
  clear hW1
  obtain ⟨hB1, hk1, hn1, hs1⟩ := hF1
  refine (awake_calls _ (rangeAt_below T0.out hB1) (rangeAt_below T1.out hB1)).mono ?_
  rintro e W2 ⟨rfl, hb2⟩
  have hB2 := hB1.trans (hb2.mono hB1.size)
  have hk2 := hk1.below hb2 (by omega)
  have hn2 := hn1.below hb2 hs1
  have hs2 : w.heap.size + 1 < W2.heap.size := Nat.lt_of_lt_of_le hs1 hb2.size
  clear hb2 hB1 hk1 hn1 hs1 W1
  have e1 : (Tryd.prog.info? 22).map (·.size) = some (rowI .u8 ks).size := by rw [rowI_size, HK.out]; kernel_rfl
  have e2 : (Tryd.prog.info? 24).map (·.size) = some (rowI .u8 ns).size := by rw [rowI_size, HN.out]; kernel_rfl
  have H1 := Lib.hid e1; have H2 := Lib.hid e2
  clear e1 e2
  go_wp2_with (first
    | (refine wpList_load_row rfl 22 (.tmp 3) rfl _ rfl 22 (rowI .u8 ks) (0, 0) _ hk2 Tryd.underlying22 rfl H1.out ?_)
    | (refine wpList_load_row rfl 24 (.tmp 5) rfl _ rfl 24 (rowI .u8 ns) (0, 0) _ hn2 Tryd.underlying24 rfl H2.out ?_)
    | fail)
  refine (block_calls ks ns ctr HK.out HN.out (U8s_of_mem BK.out) (U8s_of_mem BN.out) _ (rangeAt_below T0.out hB2) (rangeAt_below T1.out hB2)).mono ?_
  rintro e W3 ⟨rfl, hb3⟩
  obtain ⟨Z, hZ⟩ : ∃ Z, Z = blockI ks ctr ns := ⟨_, rfl⟩
  have hZl : Z.length = 64 := by rw [hZ]; exact blockI_length _ _ _
  rw [← hZ]
  have HZ := Lib.hid hZ
  have hs3 : (Tryd.prog.info? 26).map (·.size) = some (rowI .u8 Z).size := by rw [rowI_size, hZl]; kernel_rfl
  have H3 := Lib.hid hs3; have HZL := Lib.hid hZl
  clear hs3 hZl hZ
  go_wp2_with (refine wpList_store_row rfl 26 (.tmp 7) (.tmp 13) rfl W3.heap.size (rowI .u8 Z) rfl rfl 26 _ (heap_alloc_new _ _) H3.out (by rw [rowI_size, HZL.out]; rfl) (rowI_one _ _) ?_)
  refine name_wp (fun W => Below w.heap.size w W ∧ Whole W w.heap.size 22 (rowI .u8 ks) ∧ Whole W (w.heap.size + 1) 24 (rowI .u8 ns) ∧ Whole W W3.heap.size 26 (rowI .u8 Z)) ?_ ?_
  · have h1 : Below w.heap.size w W3 := hB2.trans (hb3.mono hB2.size)
    have := hb3.size
    refine ⟨(h1.alloc h1.size _).grown (only_row _ _ _) (by simp; exact Nat.le_succ_of_le h1.size) (fun k hk => by injection hk with hk; subst hk; exact h1.size), ?_, ?_, Whole.row (Whole.new (cs' := _) rfl rfl)⟩
    · exact ((hk2.below hb3 (by omega)).alloc _).only (only_row _ _ _) (ne_some (by omega))
    · exact ((hn2.below hb3 (by omega)).alloc _).only (only_row _ _ _) (ne_some (by omega))
  generalize W3.heap.size = gz
  clear hb3 hk2 hn2 hB2 hs2 W3
  intro W4 hF4
  refine wp_region_class (fun W => Below w.heap.size w W ∧ Whole W w.heap.size 22 (rowI .u8 ks) ∧ Whole W (w.heap.size + 1) 24 (rowI .u8 ns) ∧ Whole W gz 26 (rowI .u8 Z)) (by kernel_rfl) (by kernel_rfl) ⟨⟨hF4.1.os, hF4.1.tape, hF4.1.output, hF4.1.size, hF4.1.block⟩, hF4.2⟩ ?_
  refine wpQuiet_step (fun K hK => ?_)
  refine quiet_want (by kernel_rfl) ⟨(.slice (some ⟨gz, 0, none⟩) 64 64), fun W hW => ?_, ?_⟩
  · refine quietAt_val ?_
    go_simp
  go_simp
  refine hK _ ?_
  clear hK K
  refine wpQuiet_step (fun K hK => ?_)
  refine quiet_want (by kernel_rfl) ⟨(.string (strOfNums Z)), fun W hW => ?_, ?_⟩
  · refine quietAt_val ?_
    have hrun := run_convert_bytes_arg (P := Tryd.prog) W 28 5 Tryd.underlying28 Tryd.underlying5 gz 0 64 64 Z HZL.out (whole_sliced W _ _ Z 64 hW.2.2.2 HZL.out) 9 Tryd.underlying9
    go_simp
  go_simp
  refine hK _ ?_
  clear hK K
  refine wpQuiet_step (fun K hK => ?_)
  refine quiet_want (by kernel_rfl) ⟨(.slice (some ⟨w.heap.size, 0, none⟩) 32 32), fun W hW => ?_, ?_⟩
  · refine quietAt_val ?_
    go_simp
  go_simp
  refine hK _ ?_
  clear hK K
  refine wpQuiet_step (fun K hK => ?_)
  refine quiet_want (by kernel_rfl) ⟨(.string (strOfNums ks)), fun W hW => ?_, ?_⟩
  · refine quietAt_val ?_
    have hrun := run_convert_bytes_arg (P := Tryd.prog) W 28 5 Tryd.underlying28 Tryd.underlying5 w.heap.size 0 32 32 ks HK.out (whole_sliced W _ _ ks 32 hW.2.1 HK.out) 9 Tryd.underlying9
    go_simp
  go_simp
  refine hK _ ?_
  clear hK K
  refine wpQuiet_step (fun K hK => ?_)
  refine quiet_want (by kernel_rfl) ⟨(.int .u32 ctr), fun W hW => ?_, ?_⟩
  · refine quietAt_val ?_
    go_simp
  go_simp
  refine hK _ ?_
  clear hK K
  refine wpQuiet_step (fun K hK => ?_)
  refine quiet_want (by kernel_rfl) ⟨(.int .u64 ctr), fun W hW => ?_, ?_⟩
  · refine quietAt_val ?_
    have hw : IntKind.u64.wrap ctr = ctr := by rw [IntKind.wrap_u64]; omega
    go_simp
  go_simp
  refine hK _ ?_
  clear hK K
  refine wpQuiet_step (fun K hK => ?_)
  refine quiet_want (by kernel_rfl) ⟨(.slice (some ⟨w.heap.size + 1, 0, none⟩) 12 12), fun W hW => ?_, ?_⟩
  · refine quietAt_val ?_
    go_simp
  go_simp
  refine hK _ ?_
  clear hK K
  refine wpQuiet_step (fun K hK => ?_)
  refine quiet_want (by kernel_rfl) ⟨(.string (strOfNums ns)), fun W hW => ?_, ?_⟩
  · refine quietAt_val ?_
    have hrun := run_convert_bytes_arg (P := Tryd.prog) W 28 5 Tryd.underlying28 Tryd.underlying5 (w.heap.size + 1) 0 12 12 ns HN.out (whole_sliced W _ _ ns 12 hW.2.2.1 HN.out) 9 Tryd.underlying9
    go_simp
  go_simp
  refine hK _ ?_
  clear hK K
  refine wpQuiet_step (fun K hK => ?_)
  refine quiet_want (by kernel_rfl) ⟨(.string (strOfNums Z)), fun W hW => ?_, ?_⟩
  · refine quietAt_call (f := 15) (args := (#[.string (strOfNums ks), .int .u64 ctr, .string (strOfNums ns)])) (by go_simp) ?_
    refine (rblock_calls (strOfNums ks) (strOfNums ns) ctr (by rw [← bI_length, bI_str BK.out, HK.out]) (by rw [← bI_length, bI_str BN.out, HN.out]) hc0 (by omega) W).mono ?_
    rintro e W' ⟨rfl, hb⟩
    rw [bI_str BK.out, bI_str BN.out, show ctr % 4294967296 = ctr by omega, ← HZ.out]
    have hz := hW.1.size
    exact ⟨rfl, hW.1.trans (hb.mono hz), hW.2.1.below hb hW.2.1.inside, hW.2.2.1.below hb hW.2.2.1.inside, hW.2.2.2.below hb hW.2.2.2.inside⟩
  go_simp
  refine hK _ ?_
  clear hK K
  refine wpQuiet_step (fun K hK => ?_)
  refine quiet_want (by kernel_rfl) ⟨(.bool true), fun W hW => ?_, ?_⟩
  · refine quietAt_val ?_
    go_simp
  go_simp
  refine hK _ ?_
  clear hK K
  refine wpQuiet_step (fun K hK => ?_)
  refine quiet_want (by kernel_rfl) ⟨(.bool true), fun W hW => ?_, ?_⟩
  · refine quietAt_val ?_
    go_simp
  go_simp
  refine hK _ ?_
  clear hK K
  refine wpQuiet_nil ?_
  intro W5 hF5
  go_wp2
  go_ret
  exact ⟨rfl, hF5.1⟩
end Go.Proofs.YtfoljmpphbhobaaDoor
namespace Go.Proofs.YtfoljmpphbhobaaDoor
open Go.RowKit Go.Spk
set_option linter.unusedVariables false
theorem x8_x8 (a b : Int) (ha : 0 ≤ a ∧ a ≤ 255) (hb : 0 ≤ b ∧ b ≤ 255) : x8 (x8 a b) b = a := by
  obtain ⟨m, rfl⟩ := Int.eq_ofNat_of_zero_le ha.1
  obtain ⟨n, rfl⟩ := Int.eq_ofNat_of_zero_le hb.1
  unfold x8
  have hm : m < 2 ^ 8 := by omega
  have hn : n < 2 ^ 8 := by omega
  have hx : m ^^^ n < 2 ^ 8 := Nat.xor_lt_two_pow hm hn
  rw [u8_xor_nat m n (by omega) (by omega), u8_xor_nat (m ^^^ n) n (by omega) (by omega), Nat.xor_assoc, Nat.xor_self, Nat.xor_zero]
theorem stream_bd (ks : List Int) (ctr : Int) (ns : List Int) (n : Nat) : 0 ≤ streamI ks ctr ns n ∧ streamI ks ctr ns n ≤ 255 := by
  unfold streamI
  exact ix_bytes (blockI_mem _ _ _) _
theorem xorI_mem (ks : List Int) (ctr : Int) (ns ws : List Int) : ∀ b ∈ xorI ks ctr ns ws, 0 ≤ b ∧ b ≤ 255 := by
  intro b hb
  rw [xorI_map] at hb
  obtain ⟨i, _, rfl⟩ := List.mem_map.1 hb
  exact x8_0 _ _
theorem xorI_xorI (ks : List Int) (ctr : Int) (ns ws : List Int) (hw : U8s ws) : xorI ks ctr ns (xorI ks ctr ns ws) = ws := by
  refine ix_ext (by rw [xorI_length, xorI_length]) fun i hi => ?_
  rw [xorI_length, xorI_length] at hi
  rw [ix_xorI _ _ _ _ _ (by rw [xorI_length]; exact hi), ix_xorI _ _ _ _ _ hi, x8_x8 _ _ (hw i) (stream_bd _ _ _ _)]
/-- The nonce that the law makes: the length, and the key's first byte. -/
def nonceX (n : Nat) (k : Int) : List Int := [(n : Int) % 256, 0, 0, 0, 0, k, 0, 0, 0, 0, 0, 0]
theorem nonceX_mem (n : Nat) (k : Int) (hk : 0 ≤ k ∧ k ≤ 255) : ∀ b ∈ nonceX n k, 0 ≤ b ∧ b ≤ 255 := by
  intro b hb
  simp only [nonceX, List.mem_cons, List.not_mem_nil, or_false] at hb
  rcases hb with rfl | rfl | rfl | rfl | rfl | rfl | rfl | rfl | rfl | rfl | rfl | rfl <;> omega
set_option maxRecDepth 100000 in
set_option maxHeartbeats 1000000 in
theorem xors_calls (ks : List Int) (ctr : Int) (s0 : ByteArray) (hk : ks.length = 32) (bk : ∀ b ∈ ks, 0 ≤ b ∧ b ≤ 255) (hc0 : 0 ≤ ctr) (hc1 : ctr < 4294967296) (w : World)
   (t0 : w.rangeAt 0 0 (beginI.map (Value.int .u32))) (t1 : w.rangeAt 1 0 orderC) :
    Calls Tryd.prog 4 #[.agg (rowI .u8 ks), .int .u32 ctr, .string s0] w fun e w' => e = .returned (.bool true) ∧ Below w.heap.size w w' := by
  have T0 := Lib.hid t0; have T1 := Lib.hid t1; clear t0 t1
  have HK := Lib.hid hk; clear hk
  have BK := Lib.hid bk; clear bk
  go_enter Tryd.func4, Tryd.ntmps4
  go_wp2_with fail
  generalize hW1 : w.alloc (Obj.cells (rowI IntKind.u8 ks) 22) = W1
  have hF1 : Below w.heap.size w W1 ∧ Whole W1 w.heap.size 22 (rowI .u8 ks) ∧ w.heap.size < W1.heap.size := by
    subst hW1
    exact ⟨by go_grown, Whole.new rfl rfl, by simp⟩
  clear hW1
  obtain ⟨hB1, hk1, hs1⟩ := hF1
  refine (awake_calls _ (rangeAt_below T0.out hB1) (rangeAt_below T1.out hB1)).mono ?_
  rintro e W2 ⟨rfl, hb2⟩
  have hB2 := hB1.trans (hb2.mono hB1.size)
  have hk2 := hk1.below hb2 hs1
  have hs2 : w.heap.size < W2.heap.size := Nat.lt_of_lt_of_le hs1 hb2.size
  clear hb2 hB1 hk1 hs1 W1
  have e1 : (Tryd.prog.info? 22).map (·.size) = some (rowI .u8 ks).size := by rw [rowI_size, HK.out]; kernel_rfl
  have H1 := Lib.hid e1
  clear e1
  go_wp2_with fail
  refine (cut_calls s0 300 (by omega) _).mono ?_
  rintro e W2' ⟨⟨s, rfl, hcut, hsz⟩, rfl⟩
  clear hcut
  have c0 : W2.cell? ⟨w.heap.size, 0, none⟩ = some (.int .u8 (ix ks 0)) := by rw [hk2.at_, rowI_get .u8 ks 0 (by rw [HK.out]; decide)]
  have hF2 := Lib.hid (And.intro hB2 (And.intro hk2 hs2))
  clear hB2 hk2 hs2
  generalize hnn : nonceX s.size (ix ks 0) = nn
  have hnl : nn.length = 12 := by rw [← hnn]; rfl
  have hnm : ∀ b ∈ nn, 0 ≤ b ∧ b ≤ 255 := by rw [← hnn]; exact nonceX_mem _ _ (ix_bytes BK.out 0)
  have HNN := Lib.hid hnn; have HN := Lib.hid hnl; have BN := Lib.hid hnm
  have e2 : (Tryd.prog.info? 24).map (·.size) = some (rowI .u8 nn).size := by rw [rowI_size, HN.out]; kernel_rfl
  have H2 := Lib.hid e2
  clear e2 hnn hnl hnm
  have HSZ := Lib.hid hsz
  go_wp2_with (refine name_ops (fun W => Below w.heap.size w W ∧ Whole W w.heap.size 22 (rowI .u8 ks) ∧ Whole W W2.heap.size 24 (rowI .u8 nn)) ⟨hF2.out.1.alloc hF2.out.1.size _, hF2.out.2.1.alloc _, Whole.new rfl (by rw [← HNN.out]; rfl)⟩ ?_
               intro W3 hF3
               refine wpList_load_row rfl 22 (.tmp 3) rfl _ rfl 22 (rowI .u8 ks) (0, 0) _ hF3.2.1 Tryd.underlying22 rfl H1.out ?_
               refine wpList_plain rfl (fun K hK => ?_)
               go_simp
               refine hK _ _ ?_
               clear hK K
               refine wpList_load_row rfl 24 (.tmp 7) rfl _ rfl 24 (rowI .u8 nn) (0, 0) _ hF3.2.2 Tryd.underlying24 rfl H2.out ?_
               have HF3 := Lib.hid hF3
               clear hF3)
  refine (xor_calls ks nn ctr s HK.out HN.out (U8s_of_mem BK.out) (U8s_of_mem BN.out) hc0 hc1 (by have := HSZ.out; omega) _ (rangeAt_below T0.out HF3.out.1) (rangeAt_below T1.out HF3.out.1)).mono ?_
  rintro e W4 ⟨rfl, hb4⟩
  have hF4 : Below w.heap.size w W4 ∧ Whole W4 w.heap.size 22 (rowI .u8 ks) ∧ Whole W4 W2.heap.size 24 (rowI .u8 nn) :=
    ⟨HF3.out.1.trans (hb4.mono HF3.out.1.size), HF3.out.2.1.below hb4 HF3.out.2.1.inside, HF3.out.2.2.below hb4 HF3.out.2.2.inside⟩
  generalize hX : strOfNums (xorI ks ctr nn (bI s)) = X
  have hbX : bI X = xorI ks ctr nn (bI s) := by rw [← hX, bI_str (xorI_mem _ _ _ _)]
  have hXX : strOfNums (xorI ks ctr nn (bI X)) = s := by rw [hbX, xorI_xorI _ _ _ _ (U8s_bI s), str_bI]
  have hXs : X.size ≤ 300 := by rw [← bI_length, hbX, xorI_length, bI_length]; exact HSZ.out
  have HX := Lib.hid hX; have HXX := Lib.hid hXX; have HXS := Lib.hid hXs
  have HF4 := Lib.hid hF4
  clear hX hXX hXs hbX hb4 hF4 HF3 hF2 c0 hsz
  generalize W2.heap.size = gn at HF4
  go_wp2_with fail
  refine wp_region_class (fun W => Below w.heap.size w W ∧ Whole W w.heap.size 22 (rowI .u8 ks) ∧ Whole W gn 24 (rowI .u8 nn)) (by kernel_rfl) (by kernel_rfl) ⟨⟨HF4.out.1.os, HF4.out.1.tape, HF4.out.1.output, HF4.out.1.size, HF4.out.1.block⟩, HF4.out.2⟩ ?_
  refine wpQuiet_step (fun K hK => ?_)
  refine quiet_want (by kernel_rfl) ⟨(.string X), fun W hW => ?_, ?_⟩
  · refine quietAt_val ?_
    go_simp
  go_simp
  refine hK _ ?_
  clear hK K
  refine wpQuiet_step (fun K hK => ?_)
  refine quiet_want (by kernel_rfl) ⟨(.slice (some ⟨w.heap.size, 0, none⟩) 32 32), fun W hW => ?_, ?_⟩
  · refine quietAt_val ?_
    go_simp
  go_simp
  refine hK _ ?_
  clear hK K
  refine wpQuiet_step (fun K hK => ?_)
  refine quiet_want (by kernel_rfl) ⟨(.string (strOfNums ks)), fun W hW => ?_, ?_⟩
  · refine quietAt_val ?_
    have hrun := run_convert_bytes_arg (P := Tryd.prog) W 28 5 Tryd.underlying28 Tryd.underlying5 (w.heap.size) 0 32 32 ks HK.out (whole_sliced W _ _ ks 32 hW.2.1 HK.out) 9 Tryd.underlying9
    go_simp
  go_simp
  refine hK _ ?_
  clear hK K
  refine wpQuiet_step (fun K hK => ?_)
  refine quiet_want (by kernel_rfl) ⟨(.int .u32 ctr), fun W hW => ?_, ?_⟩
  · refine quietAt_val ?_
    go_simp
  go_simp
  refine hK _ ?_
  clear hK K
  refine wpQuiet_step (fun K hK => ?_)
  refine quiet_want (by kernel_rfl) ⟨(.int .u64 ctr), fun W hW => ?_, ?_⟩
  · refine quietAt_val ?_
    have hw : IntKind.u64.wrap ctr = ctr := by rw [IntKind.wrap_u64]; omega
    go_simp
  go_simp
  refine hK _ ?_
  clear hK K
  refine wpQuiet_step (fun K hK => ?_)
  refine quiet_want (by kernel_rfl) ⟨(.slice (some ⟨gn, 0, none⟩) 12 12), fun W hW => ?_, ?_⟩
  · refine quietAt_val ?_
    go_simp
  go_simp
  refine hK _ ?_
  clear hK K
  refine wpQuiet_step (fun K hK => ?_)
  refine quiet_want (by kernel_rfl) ⟨(.string (strOfNums nn)), fun W hW => ?_, ?_⟩
  · refine quietAt_val ?_
    have hrun := run_convert_bytes_arg (P := Tryd.prog) W 28 5 Tryd.underlying28 Tryd.underlying5 (gn) 0 12 12 nn HN.out (whole_sliced W _ _ nn 12 hW.2.2 HN.out) 9 Tryd.underlying9
    go_simp
  go_simp
  refine hK _ ?_
  clear hK K
  refine wpQuiet_step (fun K hK => ?_)
  refine quiet_want (by kernel_rfl) ⟨(.string s), fun W hW => ?_, ?_⟩
  · refine quietAt_val ?_
    go_simp
  go_simp
  refine hK _ ?_
  clear hK K
  refine wpQuiet_step (fun K hK => ?_)
  refine quiet_want (by kernel_rfl) ⟨(.string X), fun W hW => ?_, ?_⟩
  · refine quietAt_call (f := 18) (args := (#[.string (strOfNums ks), .int .u64 ctr, .string (strOfNums nn), .string s])) (by go_simp) ?_
    refine (rxor_calls (strOfNums ks) (strOfNums nn) s ctr (by rw [← bI_length, bI_str BK.out, HK.out]) (by rw [← bI_length, bI_str BN.out, HN.out]) hc0 hc1 (by have := HSZ.out; omega) W).mono ?_
    rintro e W' ⟨rfl, hb⟩
    rw [bI_str BK.out, bI_str BN.out, HX.out]
    have hz := hW.1.size
    exact ⟨rfl, hW.1.trans (hb.mono hz), hW.2.1.below hb hW.2.1.inside, hW.2.2.below hb hW.2.2.inside⟩
  go_simp
  refine hK _ ?_
  clear hK K
  refine wpQuiet_step (fun K hK => ?_)
  refine quiet_want (by kernel_rfl) ⟨(.bool true), fun W hW => ?_, ?_⟩
  · refine quietAt_val ?_
    go_simp
  go_simp
  refine hK _ ?_
  clear hK K
  refine wpQuiet_step (fun K hK => ?_)
  refine quiet_want (by kernel_rfl) ⟨(.bool true), fun W hW => ?_, ?_⟩
  · refine quietAt_val ?_
    go_simp
  go_simp
  refine hK _ ?_
  clear hK K
  refine wpQuiet_step (fun K hK => ?_)
  refine quiet_load (by kernel_rfl) 22 (.tmp 3) rfl _ rfl 22 (rowI .u8 ks) _ (fun W hW => hW.2.1) Tryd.underlying22 rfl H1.out ?_
  go_simp
  refine hK _ ?_
  clear hK K
  refine wpQuiet_step (fun K hK => ?_)
  refine quiet_want (by kernel_rfl) ⟨(.int .u32 ctr), fun W hW => ?_, ?_⟩
  · refine quietAt_val ?_
    go_simp
  go_simp
  refine hK _ ?_
  clear hK K
  refine wpQuiet_step (fun K hK => ?_)
  refine quiet_load (by kernel_rfl) 24 (.tmp 7) rfl _ rfl 24 (rowI .u8 nn) _ (fun W hW => hW.2.2) Tryd.underlying24 rfl H2.out ?_
  go_simp
  refine hK _ ?_
  clear hK K
  refine wpQuiet_step (fun K hK => ?_)
  refine quiet_want (by kernel_rfl) ⟨(.string X), fun W hW => ?_, ?_⟩
  · refine quietAt_val ?_
    go_simp
  go_simp
  refine hK _ ?_
  clear hK K
  refine wpQuiet_step (fun K hK => ?_)
  refine quiet_want (by kernel_rfl) ⟨(.string s), fun W hW => ?_, ?_⟩
  · refine quietAt_call (f := 17) (args := (#[.agg (rowI .u8 ks), .int .u32 ctr, .agg (rowI .u8 nn), .string X])) (by go_simp) ?_
    refine (xor_calls ks nn ctr X HK.out HN.out (U8s_of_mem BK.out) (U8s_of_mem BN.out) hc0 hc1 (by have := HXS.out; omega) _ (rangeAt_below T0.out hW.1) (rangeAt_below T1.out hW.1)).mono ?_
    rintro e W' ⟨rfl, hb⟩
    rw [HXX.out]
    have hz := hW.1.size
    exact ⟨rfl, hW.1.trans (hb.mono hz), hW.2.1.below hb hW.2.1.inside, hW.2.2.below hb hW.2.2.inside⟩
  go_simp
  refine hK _ ?_
  clear hK K
  refine wpQuiet_step (fun K hK => ?_)
  refine quiet_want (by kernel_rfl) ⟨(.string s), fun W hW => ?_, ?_⟩
  · refine quietAt_val ?_
    go_simp
  go_simp
  refine hK _ ?_
  clear hK K
  refine wpQuiet_step (fun K hK => ?_)
  refine quiet_want (by kernel_rfl) ⟨(.bool true), fun W hW => ?_, ?_⟩
  · refine quietAt_val ?_
    go_simp
  go_simp
  refine hK _ ?_
  clear hK K
  refine wpQuiet_step (fun K hK => ?_)
  refine quiet_want (by kernel_rfl) ⟨(.bool true), fun W hW => ?_, ?_⟩
  · refine quietAt_val ?_
    go_simp
  go_simp
  refine hK _ ?_
  clear hK K
  refine wpQuiet_step (fun K hK => ?_)
  refine quiet_want (by kernel_rfl) ⟨(.bool true), fun W hW => ?_, ?_⟩
  · refine quietAt_val ?_
    go_simp
  go_simp
  refine hK _ ?_
  clear hK K
  refine wpQuiet_nil ?_
  intro W5 hF5
  go_wp2
  go_ret
  exact ⟨rfl, hF5.1⟩
end Go.Proofs.YtfoljmpphbhobaaDoor
