/- The walks of sha2.Hex and of Cut. -/
import Derived.Test.YtfoljmpphbhobaaDoorBld
import Derived.LoopTactic
import Derived.Handy
import Derived.Outline
import Derived.Lib.Hide
import Derived.Lib.Strings
import Derived.Laws.BitsAllLaws
namespace Go.Proofs.YtfoljmpphbhobaaDoor
open Go.RowKit Go.Spk
set_option linter.unusedVariables false
theorem byteCells_of {xs : List Int} (h : ∀ b ∈ xs, 0 ≤ b ∧ b ≤ 255) : xs.map (Value.int .u8) = Lib.byteCells (xs.map fun n => UInt8.ofNat n.toNat) := by
  unfold Lib.byteCells
  rw [List.map_map]
  apply List.map_congr_left
  intro b hb
  have := h b hb
  simp
  omega
theorem and15 (x : Int) (h0 : 0 ≤ x) (h1 : x ≤ 255) : bits BinOp.and IntKind.u8 x 15 = x % 16 := by
  obtain ⟨n, rfl⟩ := Int.eq_ofNat_of_zero_le h0
  have := u8_and_nat n 15 (by omega) (by omega)
  rw [nat_mask4] at this
  rw [show ((15 : Nat) : Int) = 15 from rfl] at this
  rw [this]; omega
def digI (n : Nat) : Int := ix [48, 49, 50, 51, 52, 53, 54, 55, 56, 57, 97, 98, 99, 100, 101, 102] n
theorem digI_bd (n : Nat) : 0 ≤ digI n ∧ digI n ≤ 255 := ix_bytes (by decide) n
def hexI (ws : List Int) : Nat → List Int
  | 0 => []
  | k + 1 => hexI ws k ++ [digI (ix ws k / 16).toNat, digI (ix ws k % 16).toNat]
theorem hexI_mem (ws : List Int) (k : Nat) : ∀ b ∈ hexI ws k, 0 ≤ b ∧ b ≤ 255 := by
  induction k with
  | zero => intro b hb; simp [hexI] at hb
  | succ k ih =>
    intro b hb
    simp only [hexI, List.mem_append, List.mem_cons, List.not_mem_nil, or_false] at hb
    rcases hb with hb | rfl | rfl
    · exact ih b hb
    · exact digI_bd _
    · exact digI_bd _
theorem hexI_length (ws : List Int) (k : Nat) : (hexI ws k).length = 2 * k := by
  induction k with
  | zero => rfl
  | succ k ih => simp [hexI, ih]; omega
set_option maxRecDepth 100000 in
set_option maxHeartbeats 2000000 in
theorem hex_calls (s : ByteArray) (hs : s.size ≤ 1000000000) (w : World) :
    Calls Tryd.prog 35 #[.string s] w fun e w' => e = .returned (.string (strOfNums (hexI (bI s) s.size))) ∧ Below w.heap.size w w' := by
  have gs : ∀ (n : Nat) (h : n < s.size), ((s[n]'h).toNat : Int) = ix (bI s) n := fun n h => (ix_bI s n h).symm
  have gd : ∀ (n : Nat) (h : n < (ByteArray.mk #[48, 49, 50, 51, 52, 53, 54, 55, 56, 57, 97, 98, 99, 100, 101, 102]).size), (((ByteArray.mk #[48, 49, 50, 51, 52, 53, 54, 55, 56, 57, 97, 98, 99, 100, 101, 102])[n]'h).toNat : Int) = digI n := fun n h => (ix_bI _ n h).symm
  go_enter Tryd.func35, Tryd.ntmps35
  go_wp2_with fail
  have h0 := Lib.fresh_isBuilder 106 5 w
  go_loopw [7] (fun i wr => ∃ k : Nat, k ≤ s.size ∧ i = .int .i64 k ∧ Lib.IsBuilder 106 5 w.heap.size w.heap.size ((hexI (bI s) k).map (Value.int .u8)) wr ∧ Below w.heap.size w wr) (fun i _ => s.size - (intOf i).toNat)
  case atStart => exact ⟨0, by omega, rfl, h0, (Below.refl _ w).alloc (Nat.le_refl _) _⟩
  case round =>
    clear h0
    obtain ⟨k, hk, rfl, hb, hB⟩ := hrel
    by_cases hlt : k < s.size
    · have ii : (k : Int) < s.size := by omega
      have hu := U8s_bI s k
      obtain ⟨u0, u1⟩ := hu
      have d1 : ix (bI s) k / 16 < 16 := by omega
      have d0 : 0 ≤ ix (bI s) k / 16 := by omega
      have e15 := and15 _ u0 u1
      have d2 : ix (bI s) k % 16 < 16 := by omega
      have d3 : 0 ≤ ix (bI s) k % 16 := by omega
      have hl := hexI_length (bI s) k
      have HL := Lib.hid hl
      clear hl
      go_wp2_with fail
      refine (writeByte_calls w.heap.size w.heap.size _ _ _ hb (by simp [HL.out]; omega) hB.size).mono ?_
      rintro e w1 ⟨rfl, hb1, hB1⟩
      go_wp2_with fail
      refine (writeByte_calls w.heap.size w.heap.size _ _ _ (.inr hb1) (by simp [HL.out]; omega) (by have := hB.size; have := hB1.size; omega)).mono ?_
      rintro e w2 ⟨rfl, hb2, hB2⟩
      go_wp2_with fail
      go_roundw
      case rel => exact ⟨k + 1, by omega, by go_num, .inr (by rw [hexI]; simpa using hb2), (hB.trans hB1).trans hB2⟩
      case measure => simp [intOf]; omega
    · obtain rfl : k = s.size := by omega
      rw [byteCells_of (hexI_mem _ _)] at hb
      go_wp2_with fail
      refine (Tryd.Builder_String_any w.heap.size w.heap.size _ _ hb hB.size).mono ?_
      rintro e w1 ⟨rfl, hB1⟩
      go_wp2
      go_ret
      exact ⟨rfl, hB.trans hB1⟩
theorem cut_calls (s : ByteArray) (n : Nat) (hn : n ≤ 1000000000) (w : World) :
    Calls Tryd.prog 16 #[.string s, .int .i64 n] w fun e w' => (∃ t : ByteArray, e = .returned (.string t) ∧ bI t = (bI s).take n ∧ t.size ≤ n) ∧ w = w' := by
  by_cases h : n < s.size
  · have hi : (n : Int) < s.size := by omega
    have hi2 : (n : Int) ≤ s.size := by omega
    go_enter Tryd.func16, Tryd.ntmps16
    go_wp2
    go_ret
    refine ⟨⟨_, rfl, ?_, ?_⟩, rfl⟩
    · show (bI (s.extract 0 n)) = _
      simp [bI]
    · show (s.extract 0 n).size ≤ n
      simp
      omega
  · have hi : ¬ (n : Int) < s.size := by omega
    go_enter Tryd.func16, Tryd.ntmps16
    go_wp2
    go_ret
    exact ⟨⟨s, rfl, by rw [List.take_of_length_le (by rw [bI_length]; omega)], by omega⟩, rfl⟩
end Go.Proofs.YtfoljmpphbhobaaDoor
