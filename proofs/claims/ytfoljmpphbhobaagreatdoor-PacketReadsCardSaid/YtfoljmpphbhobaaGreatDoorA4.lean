/- The walks of strings.Builder's copyCheck, WriteByte, WriteString over this program, after the shelf's own. · The walks of sha2.Hex and of Cut. · The walk of speakeasylaw03.awake: it answers true. · The walk of ChachaBlocks: it answers true. · The walk of ChachaXors: it answers true. -/
import Derived.Test.YtfoljmpphbhobaaGreatDoorProg
import Derived.Test.YtfoljmpphbhobaaGreatDoorA1
import Derived.Test.YtfoljmpphbhobaaGreatDoorShelf
import Derived.Test.YtfoljmpphbhobaaGreatDoorA2
import Derived.Lib.Builder
import Derived.Lib.AppendStr
import Derived.Lib.Strings
import Derived.LoopTactic
import Derived.Handy
import Derived.Outline
import Derived.Lib.Hide
import Derived.Laws.BitsAllLaws
import Derived.Laws.Bits64
namespace Go.Proofs.YtfoljmpphbhobaaGreatDoor
open Go.RowKit Go.Spk
set_option linter.unusedVariables false
theorem bldSize : (Tryz.prog.info? 60).map (·.size) = some 2 := by kernel_rfl
theorem bldLies : liesAt Tryz.prog Tryz.prog.depth 60 (2 / Tryz.prog.cellsOf 60) 0 60 1 = true := by kernel_rfl
set_option maxRecDepth 100000 in
set_option maxHeartbeats 1000000 in
theorem check_used (b : Nat) (w : World) (h0 : w.cell? ⟨b, 0, none⟩ = some (.pointer (some ⟨b, 0, none⟩))) :
    Calls Tryz.prog 61 #[.pointer (some ⟨b, 0, none⟩)] w fun e w' => e = .returned (.tuple #[]) ∧ w' = w := by
  obtain ⟨j, hj, _⟩ := Option.map_eq_some_iff.1 bldSize
  go_enter Tryz.func61, Tryz.ntmps61
  go_wp2
  rw [Lib.run_neq_ptr_same (P := Tryz.prog) (w := w) _ Tryz.underlying58 hj]
  go_wp2
  go_end0
  exact ⟨rfl, rfl⟩
set_option maxRecDepth 100000 in
set_option maxHeartbeats 1000000 in
theorem check_fresh (b : Nat) (w : World) (h0 : w.cell? ⟨b, 0, none⟩ = some (.pointer none)) (hsh : w.shape? b = some (60, 2)) (hfz : w.frozen? ⟨b, 0, none⟩ = false) :
    Calls Tryz.prog 61 #[.pointer (some ⟨b, 0, none⟩)] w fun e w' => e = .returned (.tuple #[]) ∧ w' = w.setCell ⟨b, 0, none⟩ (.pointer (some ⟨b, 0, none⟩)) := by
  obtain ⟨j, hj, hjs⟩ := Option.map_eq_some_iff.1 bldSize
  go_enter Tryz.func61, Tryz.ntmps61
  go_wp2
  rw [Lib.run_to_unsafe (P := Tryz.prog) (w := w) ⟨b, 0, none⟩ Tryz.underlying58 Tryz.underlying112 hj (by rw [hjs]; decide) hsh (Nat.zero_lt_succ 1)]
  simp only [Result.andThen]
  rw [Oper.upon_value]
  go_wp2
  rw [run_callFunc_extern Tryz.func79 (by kernel_rfl) (by kernel_rfl) (by kernel_rfl) (e := Extern.AbiNoEscape.same) (by kernel_rfl)]
  rw [Lib.run_noEscape]
  simp only [Result.andThen]
  rw [Oper.upon_value]
  go_wp2
  rw [Lib.run_from_unsafe (P := Tryz.prog) (w := w) ⟨b, 0, none⟩ Tryz.underlying112 Tryz.underlying58 hj hsh bldLies]
  simp only [Result.andThen]
  rw [Oper.upon_value]
  go_wp2
  go_end0
  exact ⟨rfl, rfl⟩
theorem copyCheck_calls (B b : Nat) (bs : List Value) (w : World) (h : Lib.IsBuilder 60 5 B b bs w) :
    Calls Tryz.prog 61 #[.pointer (some ⟨b, 0, none⟩)] w fun e w' => e = .returned (.tuple #[]) ∧ (Lib.BuilderAt 60 5 B b (.pointer (some ⟨b, 0, none⟩)) bs w' ∧ w.grownBy w' (some b)) := by
  rcases h with h | h
  · refine (check_fresh b w h.cell0 h.shape h.frozen0).mono ?_
    rintro e w' ⟨rfl, rfl⟩
    exact ⟨rfl, h.used _, only_stored _ rfl _⟩
  · refine (check_used b w h.cell0).mono ?_
    rintro e w' ⟨rfl, rfl⟩
    exact ⟨rfl, h, World.grownBy.refl _ _⟩
theorem infoByte : (Tryz.prog.info? 5).map (fun i => (i.zero, i.size, i.bytes)) = some (some (.int .u8 0), 1, 1) := by kernel_rfl
set_option maxRecDepth 100000 in
set_option maxHeartbeats 2000000 in
/-- WriteByte: the builder holds one byte more; nothing below B has changed. -/
theorem writeByte_calls (B b : Nat) (bs : List Value) (c : Int) (w : World) (h : Lib.IsBuilder 60 5 B b bs w) (hlen : bs.length + 1 ≤ 140737488355328) (hBw : B ≤ w.heap.size) :
    Calls Tryz.prog 40 #[.pointer (some ⟨b, 0, none⟩), .int .u8 c] w fun e w' => e = .returned .nilIface ∧ (Lib.BuilderAt 60 5 B b (.pointer (some ⟨b, 0, none⟩)) (bs ++ [.int .u8 c]) w' ∧ Below B w w') := by
  obtain ⟨i0, hi, hz0, hz1, hz2⟩ := info_parts infoByte
  go_enter Tryz.func40, Tryz.ntmps40
  go_wp2_with (go_at_call 61; refine (copyCheck_calls B b bs _ h).mono ?_)
  rintro e w1 ⟨rfl, h1, hb0⟩
  have hbB : B ≤ b := by rcases h with h | h <;> exact h.1
  have hb1 : Below B w w1 := (Below.refl B w).grown hb0 hBw (fun k hk => by injection hk with hk; omega)
  obtain ⟨hB, v, hbk, hown, hne⟩ := h1
  have c0 : w1.cell? ⟨b, 0, none⟩ = some (.pointer (some ⟨b, 0, none⟩)) := by rw [Lib.cell_of_heap hbk]; rfl
  have c1 : w1.cell? ⟨b, 1, none⟩ = some v := by rw [Lib.cell_of_heap hbk]; rfl
  go_wp2_with (at_builtin; refine wpList_append_own _ rfl _ _ 33 rfl B 5 i0 (.int .u8 0) 1 1 Tryz.underlying33 hi hz0 hz1 hz2 rfl (by decide) _ _ _ rfl (hown.alloc _) ⟨w1.heap.size, 0, none⟩ 1 1 [.int .u8 c] rfl rfl ?c1 ?c2 ?c3 ?c4 ?c5 ?_)
  case c1 =>
    intro j u hj
    match j, hj with
    | 0, hj => simp at hj; subst hj; simp [Addr.add]
  case c2 => intro u hu; simp at hu; subst hu; rfl
  case c3 => unfold maxLen; omega
  case c4 => omega
  case c5 => have := hb1.size; simp; omega
  intro v' w2 hown' hgrow _
  have hlt : b < w1.heap.size := Whole.inside (t := 60) (cs := #[.pointer (some ⟨b, 0, none⟩), v]) hbk
  have hb2 : w2.heap[b]? = some (.cells #[.pointer (some ⟨b, 0, none⟩), v] 60 (0, 0)) := by
    rw [hgrow.block b (by simp; omega) (fun e => hne e.symm), Lib.alloc_old w1 _ b hlt]
    exact hbk
  have d0 : w2.cell? ⟨b, 0, none⟩ = some (.pointer (some ⟨b, 0, none⟩)) := by rw [Lib.cell_of_heap hb2]; rfl
  have d1 : w2.cell? ⟨b, 1, none⟩ = some v := by rw [Lib.cell_of_heap hb2]; rfl
  have f1 : w2.frozen? ⟨b, 1, none⟩ = false := Lib.frozen_of_heap hb2 1
  obtain ⟨g, cap, rfl⟩ : ∃ g cap, v' = .slice (some ⟨g, 0, none⟩) (bs.length + 1) cap := by
    rcases hown'.2 with ⟨_, h0⟩ | ⟨g, cap, cur, hv, _⟩
    · omega
    · exact ⟨g, cap, hv⟩
  go_wp2
  go_ret
  refine ⟨rfl, ?_, ?_⟩
  · exact Lib.BuilderAt.put (T := 60) (e := 5) hB hb2 (bs' := bs ++ [.int .u8 c]) (by simpa using hown') (by decide)
  · exact ((hb1.alloc (by have := hb1.size; omega) _).grown hgrow (by have := hb1.size; simp; omega) (fun k hk => (hown.lt k hk).1)).setCell (p := ⟨b, 1, none⟩) hB _
set_option maxRecDepth 100000 in
set_option maxHeartbeats 2000000 in
/-- WriteString: the builder holds the string's bytes besides; nothing below B has changed. -/
theorem writeString_calls (B b : Nat) (bs : List Value) (s : ByteArray) (w : World) (h : Lib.IsBuilder 60 5 B b bs w) (hlen : bs.length + s.size ≤ 140737488355328) (hBw : B ≤ w.heap.size) :
    Calls Tryz.prog 41 #[.pointer (some ⟨b, 0, none⟩), .string s] w fun e w' => e = .returned (.tuple #[.int .i64 s.size, .nilIface]) ∧ (Lib.BuilderAt 60 5 B b (.pointer (some ⟨b, 0, none⟩)) (bs ++ Lib.strCells s) w' ∧ Below B w w') := by
  obtain ⟨i0, hi, hz0, hz1, hz2⟩ := info_parts infoByte
  go_enter Tryz.func41, Tryz.ntmps41
  go_wp2_with (go_at_call 61; refine (copyCheck_calls B b bs _ h).mono ?_)
  rintro e w1 ⟨rfl, h1, hb0⟩
  have hbB : B ≤ b := by rcases h with h | h <;> exact h.1
  have hb1 : Below B w w1 := (Below.refl B w).grown hb0 hBw (fun k hk => by injection hk with hk; omega)
  obtain ⟨hB, v, hbk, hown, hne⟩ := h1
  have c0 : w1.cell? ⟨b, 0, none⟩ = some (.pointer (some ⟨b, 0, none⟩)) := by rw [Lib.cell_of_heap hbk]; rfl
  have c1 : w1.cell? ⟨b, 1, none⟩ = some v := by rw [Lib.cell_of_heap hbk]; rfl
  go_wp2_with (at_builtin; refine Lib.wpList_append_own_string _ rfl _ _ 33 9 rfl B 5 i0 Tryz.underlying33 Tryz.underlying9 hi hz0 hz1 hz2 _ _ _ rfl hown s rfl ?c3 ?c4 ?c5 ?_)
  case c3 => unfold maxLen; omega
  case c4 => omega
  case c5 => have := hb1.size; omega
  intro v' w2 hown' hgrow _
  have hlt : b < w1.heap.size := Whole.inside (t := 60) (cs := #[.pointer (some ⟨b, 0, none⟩), v]) hbk
  have hb2 : w2.heap[b]? = some (.cells #[.pointer (some ⟨b, 0, none⟩), v] 60 (0, 0)) := by
    rw [hgrow.block b hlt (fun e => hne e.symm)]
    exact hbk
  have d0 : w2.cell? ⟨b, 0, none⟩ = some (.pointer (some ⟨b, 0, none⟩)) := by rw [Lib.cell_of_heap hb2]; rfl
  have d1 : w2.cell? ⟨b, 1, none⟩ = some v := by rw [Lib.cell_of_heap hb2]; rfl
  have f1 : w2.frozen? ⟨b, 1, none⟩ = false := Lib.frozen_of_heap hb2 1
  obtain ⟨ao, n', cap, rfl⟩ : ∃ ao n' cap, v' = .slice ao n' cap := by
    rcases hown'.2 with ⟨hv, _⟩ | ⟨g, cap, cur, hv, _⟩
    · exact ⟨_, _, _, hv⟩
    · exact ⟨_, _, _, hv⟩
  go_wp2
  go_ret2
  refine ⟨rfl, ?_, ?_⟩
  · exact Lib.BuilderAt.put (T := 60) (e := 5) hB hb2 (bs' := bs ++ Lib.strCells s) (by simpa [Lib.strCells_length] using hown') (by decide)
  · exact (hb1.grown hgrow (by have := hb1.size; omega) (fun k hk => (hown.lt k hk).1)).setCell (p := ⟨b, 1, none⟩) hB _
end Go.Proofs.YtfoljmpphbhobaaGreatDoor
namespace Go.Proofs.YtfoljmpphbhobaaGreatDoor
open Go.RowKit Go.Spk
set_option linter.unusedVariables false
theorem byteCells_of {xs : List Int} (h : ∀ b ∈ xs, 0 ≤ b ∧ b ≤ 255) : xs.map (Value.int .u8) = Lib.byteCells (xs.map fun n => UInt8.ofNat n.toNat) := by
  unfold Lib.byteCells
  rw [List.map_map]
  apply List.map_congr_left
  intro b hb
  have := h b hb
  simp
  omega
theorem and15 (x : Int) (h0 : 0 ≤ x) (h1 : x ≤ 255) : bits BinOp.and IntKind.u8 x 15 = x % 16 := by
  obtain ⟨n, rfl⟩ := Int.eq_ofNat_of_zero_le h0
  have := u8_and_nat n 15 (by omega) (by omega)
  rw [nat_mask4] at this
  rw [show ((15 : Nat) : Int) = 15 from rfl] at this
  rw [this]; omega
def digI (n : Nat) : Int := ix [48, 49, 50, 51, 52, 53, 54, 55, 56, 57, 97, 98, 99, 100, 101, 102] n
theorem digI_bd (n : Nat) : 0 ≤ digI n ∧ digI n ≤ 255 := ix_bytes (by decide) n
def hexI (ws : List Int) : Nat → List Int
  | 0 => []
  | k + 1 => hexI ws k ++ [digI (ix ws k / 16).toNat, digI (ix ws k % 16).toNat]
theorem hexI_mem (ws : List Int) (k : Nat) : ∀ b ∈ hexI ws k, 0 ≤ b ∧ b ≤ 255 := by
  induction k with
  | zero => intro b hb; simp [hexI] at hb
  | succ k ih =>
    intro b hb
    simp only [hexI, List.mem_append, List.mem_cons, List.not_mem_nil, or_false] at hb
    rcases hb with hb | rfl | rfl
    · exact ih b hb
    · exact digI_bd _
    · exact digI_bd _
theorem hexI_length (ws : List Int) (k : Nat) : (hexI ws k).length = 2 * k := by
  induction k with
  | zero => rfl
  | succ k ih => simp [hexI, ih]; omega
theorem cut_calls (s : ByteArray) (n : Nat) (hn : n ≤ 1000000000) (w : World) :
    Calls Tryz.prog 9 #[.string s, .int .i64 n] w fun e w' => (∃ t : ByteArray, e = .returned (.string t) ∧ bI t = (bI s).take n ∧ t.size ≤ n) ∧ w = w' := by
  by_cases h : n < s.size
  · have hi : (n : Int) < s.size := by omega
    have hi2 : (n : Int) ≤ s.size := by omega
    go_enter Tryz.func9, Tryz.ntmps9
    go_wp2
    go_ret
    refine ⟨⟨_, rfl, ?_, ?_⟩, rfl⟩
    · show (bI (s.extract 0 n)) = _
      simp [bI]
    · show (s.extract 0 n).size ≤ n
      simp
      omega
  · have hi : ¬ (n : Int) < s.size := by omega
    go_enter Tryz.func9, Tryz.ntmps9
    go_wp2
    go_ret
    exact ⟨⟨s, rfl, by rw [List.take_of_length_le (by rw [bI_length]; omega)], by omega⟩, rfl⟩
end Go.Proofs.YtfoljmpphbhobaaGreatDoor
namespace Go.Proofs.YtfoljmpphbhobaaGreatDoor
open Go.RowKit Go.Spk
set_option linter.unusedVariables false
/-- The key 0, 1, .., n-1, of 32 places. -/
def keyUp : Nat → List Int
  | 0 => List.replicate 32 0
  | n + 1 => (keyUp n).set n (n : Int)
theorem keyUp_length (n : Nat) : (keyUp n).length = 32 := by
  induction n with
  | zero => rfl
  | succ n ih => simp [keyUp, ih]
def nonceA : List Int := [0, 0, 0, 9, 0, 0, 0, 74, 0, 0, 0, 0]
theorem U8s_of {ws : List Int} (h : ws.all (fun b => decide (0 ≤ b ∧ b ≤ 255)) = true) : U8s ws := fun i => ix_bytes (by simpa using h) i
theorem awake_val : strOfNums (hexI (bI (strOfNums ((blockI (keyUp 32) 1 nonceA).take 16))) 16) = ByteArray.mk #[49, 48, 102, 49, 101, 55, 101, 52, 100, 49, 51, 98, 53, 57, 49, 53, 53, 48, 48, 102, 100, 100, 49, 102, 97, 51, 50, 48, 55, 49, 99, 52] := by
  decide +kernel
theorem sliced (w : World) (g : Nat) (t : TypeId) (Z : List Int) (h : Whole w g t (rowI .u8 Z)) (n : Nat) (hn : n ≤ Z.length) (hZ : n = ((Z.take n).length)) :
    ∀ q, q < n → w.cell? ⟨g, 0 + q, none⟩ = some (.int .u8 ((Z.take n).getD q 0)) := fun q hq => by
  rw [Nat.zero_add, h.at_, rowI_get .u8 Z q (by omega)]
  congr 2
  unfold ix
  simp [List.getD, hq]
end Go.Proofs.YtfoljmpphbhobaaGreatDoor
namespace Go.Proofs.YtfoljmpphbhobaaGreatDoor
open Go.RowKit Go.Spk
set_option linter.unusedVariables false
theorem whole_sliced (w : World) (g : Nat) (t : TypeId) (Z : List Int) (n : Nat) (h : Whole w g t (rowI .u8 Z)) (hn : Z.length = n) :
    ∀ q, q < n → w.cell? ⟨g, 0 + q, none⟩ = some (.int .u8 (Z.getD q 0)) := fun q hq => by
  rw [Nat.zero_add, h.at_, rowI_get .u8 Z q (by omega)]; rfl
end Go.Proofs.YtfoljmpphbhobaaGreatDoor
namespace Go.Proofs.YtfoljmpphbhobaaGreatDoor
open Go.RowKit Go.Spk
set_option linter.unusedVariables false
theorem x8_x8 (a b : Int) (ha : 0 ≤ a ∧ a ≤ 255) (hb : 0 ≤ b ∧ b ≤ 255) : x8 (x8 a b) b = a := by
  obtain ⟨m, rfl⟩ := Int.eq_ofNat_of_zero_le ha.1
  obtain ⟨n, rfl⟩ := Int.eq_ofNat_of_zero_le hb.1
  unfold x8
  have hm : m < 2 ^ 8 := by omega
  have hn : n < 2 ^ 8 := by omega
  have hx : m ^^^ n < 2 ^ 8 := Nat.xor_lt_two_pow hm hn
  rw [u8_xor_nat m n (by omega) (by omega), u8_xor_nat (m ^^^ n) n (by omega) (by omega), Nat.xor_assoc, Nat.xor_self, Nat.xor_zero]
theorem stream_bd (ks : List Int) (ctr : Int) (ns : List Int) (n : Nat) : 0 ≤ streamI ks ctr ns n ∧ streamI ks ctr ns n ≤ 255 := by
  unfold streamI
  exact ix_bytes (blockI_mem _ _ _) _
theorem xorI_mem (ks : List Int) (ctr : Int) (ns ws : List Int) : ∀ b ∈ xorI ks ctr ns ws, 0 ≤ b ∧ b ≤ 255 := by
  intro b hb
  rw [xorI_map] at hb
  obtain ⟨i, _, rfl⟩ := List.mem_map.1 hb
  exact x8_0 _ _
theorem xorI_xorI (ks : List Int) (ctr : Int) (ns ws : List Int) (hw : U8s ws) : xorI ks ctr ns (xorI ks ctr ns ws) = ws := by
  refine ix_ext (by rw [xorI_length, xorI_length]) fun i hi => ?_
  rw [xorI_length, xorI_length] at hi
  rw [ix_xorI _ _ _ _ _ (by rw [xorI_length]; exact hi), ix_xorI _ _ _ _ _ hi, x8_x8 _ _ (hw i) (stream_bd _ _ _ _)]
/-- The nonce that the law makes: the length, and the key's first byte. -/
def nonceX (n : Nat) (k : Int) : List Int := [(n : Int) % 256, 0, 0, 0, 0, k, 0, 0, 0, 0, 0, 0]
theorem nonceX_mem (n : Nat) (k : Int) (hk : 0 ≤ k ∧ k ≤ 255) : ∀ b ∈ nonceX n k, 0 ≤ b ∧ b ≤ 255 := by
  intro b hb
  simp only [nonceX, List.mem_cons, List.not_mem_nil, or_false] at hb
  rcases hb with rfl | rfl | rfl | rfl | rfl | rfl | rfl | rfl | rfl | rfl | rfl | rfl <;> omega
end Go.Proofs.YtfoljmpphbhobaaGreatDoor
