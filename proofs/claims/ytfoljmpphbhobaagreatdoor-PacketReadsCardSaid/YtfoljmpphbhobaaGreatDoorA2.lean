/- The walks of math/bits.RotateLeft32 and of chacha's quarter round: what they compute, over integers. · The walk of chacha.word. · The walk of chacha.Block. · The walk of chacha.Xor. · The walks of the reference's chacha: left, Quarter. · The walks of the reference's chacha: words, Block. · The walk of the reference's Block. · The walk of the reference's Xor. -/
import Derived.Test.YtfoljmpphbhobaaGreatDoorProg
import Derived.Test.YtfoljmpphbhobaaGreatDoorA1
import Derived.StillTailTactics
import Derived.BigRegion
import Derived.BigQuiet
import Derived.Outline
import Derived.Lib.Hide
import Derived.Laws.BitsAllLaws
import Derived.LoopTactic
import Derived.Handy
import Derived.Laws.CopyRow
import Derived.Laws.Tables
import Derived.Deep.MidRow
import Derived.Deep.RegionLaw
import Derived.Deep.RegionHeld3
namespace Go.Proofs.YtfoljmpphbhobaaGreatDoor
open Go.RowKit Go.Spk
set_option linter.unusedVariables false
/-- A rotation of a 32-bit word: m is 2 to the count, q is 2 to what is left of 32. -/
def rotI (m q x : Int) : Int := bits BinOp.or IntKind.u32 (x * m % 4294967296) (x / q)
def x32 (a b : Int) : Int := bits .xor .u32 a b
def add32 (a b : Int) : Int := (a + b) % 4294967296
theorem x32_eq (a b : Int) : bits .xor .u32 a b = x32 a b := rfl
theorem bits_u32 (o : BinOp) (a b : Int) (h : o = .xor ∨ o = .or) : 0 ≤ bits o .u32 a b ∧ bits o .u32 a b < 4294967296 := by
  rcases h with rfl | rfl
  all_goals
    unfold bits
    rw [IntKind.wrap_u32']
    omega
theorem x32_0 (a b : Int) : 0 ≤ x32 a b := (bits_u32 .xor a b (.inl rfl)).1
theorem x32_1 (a b : Int) : x32 a b < 4294967296 := (bits_u32 .xor a b (.inl rfl)).2
theorem and16 : bits BinOp.and IntKind.u64 16 31 = 16 := by decide +kernel
theorem and12 : bits BinOp.and IntKind.u64 12 31 = 12 := by decide +kernel
theorem and8 : bits BinOp.and IntKind.u64 8 31 = 8 := by decide +kernel
theorem and7 : bits BinOp.and IntKind.u64 7 31 = 7 := by decide +kernel
theorem rot16 (x : Int) (h0 : 0 ≤ x) (h : x < 4294967296) (w : World) :
    Calls Tryz.prog 98 #[.int .u32 x, .int .i64 16] w fun e w' => e = .returned (.int .u32 (rotI 65536 65536 x)) ∧ w' = w := by
  have e1 := and16
  go_enter Tryz.func98, Tryz.ntmps98
  go_wp2
  go_ret
  exact ⟨rfl, rfl⟩
theorem rot12 (x : Int) (h0 : 0 ≤ x) (h : x < 4294967296) (w : World) :
    Calls Tryz.prog 98 #[.int .u32 x, .int .i64 12] w fun e w' => e = .returned (.int .u32 (rotI 4096 1048576 x)) ∧ w' = w := by
  have e1 := and12
  go_enter Tryz.func98, Tryz.ntmps98
  go_wp2
  go_ret
  exact ⟨rfl, rfl⟩
theorem rot8 (x : Int) (h0 : 0 ≤ x) (h : x < 4294967296) (w : World) :
    Calls Tryz.prog 98 #[.int .u32 x, .int .i64 8] w fun e w' => e = .returned (.int .u32 (rotI 256 16777216 x)) ∧ w' = w := by
  have e1 := and8
  go_enter Tryz.func98, Tryz.ntmps98
  go_wp2
  go_ret
  exact ⟨rfl, rfl⟩
theorem rot7 (x : Int) (h0 : 0 ≤ x) (h : x < 4294967296) (w : World) :
    Calls Tryz.prog 98 #[.int .u32 x, .int .i64 7] w fun e w' => e = .returned (.int .u32 (rotI 128 33554432 x)) ∧ w' = w := by
  have e1 := and7
  go_enter Tryz.func98, Tryz.ntmps98
  go_wp2
  go_ret
  exact ⟨rfl, rfl⟩

/-- The quarter round over a list of words. -/
def qrI (ws : List Int) (a b c d : Nat) : List Int :=
  let w1 := ws.set a (add32 (ix ws a) (ix ws b))
  let w2 := w1.set d (rotI 65536 65536 (x32 (ix w1 d) (ix w1 a)))
  let w3 := w2.set c (add32 (ix w2 c) (ix w2 d))
  let w4 := w3.set b (rotI 4096 1048576 (x32 (ix w3 b) (ix w3 c)))
  let w5 := w4.set a (add32 (ix w4 a) (ix w4 b))
  let w6 := w5.set d (rotI 256 16777216 (x32 (ix w5 d) (ix w5 a)))
  let w7 := w6.set c (add32 (ix w6 c) (ix w6 d))
  w7.set b (rotI 128 33554432 (x32 (ix w7 b) (ix w7 c)))

set_option maxRecDepth 100000 in
set_option maxHeartbeats 2000000 in
theorem quarter_calls (g : Nat) (ws : List Int) (a b c d : Nat) (hl : ws.length = 16) (ha : a < 16) (hb : b < 16) (hc : c < 16) (hd : d < 16)
   (w : World) (hw : Whole w g 155 (rowI .u32 ws)) :
    Calls Tryz.prog 82 #[.pointer (some ⟨g, 0, none⟩), .int .i64 a, .int .i64 b, .int .i64 c, .int .i64 d] w
      fun e w' => e = .returned (.tuple #[]) ∧ Upd w w' g 155 .u32 (qrI ws a b c d) := by
  have ex := x32_eq
  have U0 := Upd.start hw
  have L0 := Lib.hid hl
  have ia : (a : Int) < 16 := by omega
  have ib : (b : Int) < 16 := by omega
  have ic : (c : Int) < 16 := by omega
  have id : (d : Int) < 16 := by omega
  clear hl
  go_enter Tryz.func82, Tryz.ntmps82
  go_wp2
  have cb := U0.cell b (by rw [L0.out]; exact hb)
  have ca := U0.cell a (by rw [L0.out]; exact ha)
  have fa := U0.frozen a
  go_region
  go_wp2
  obtain ⟨W1, ws1, hW, hs, U1, hl⟩ := U0.step L0.out a (add32 (ix ws a) (ix ws b))
  unfold add32 at hW
  rw [← hW]
  have S1 := Lib.hid hs
  have L1 := Lib.hid hl
  clear hW hs hl ca cb fa
  have ca := U1.cell a (by rw [L1.out]; exact ha)
  have cd := U1.cell d (by rw [L1.out]; exact hd)
  have fd := U1.frozen d
  refine wp_region_still_tail 16 (by kernel_rfl) (by kernel_rfl) ?_
  simp only [List.take_succ_cons, List.take_zero, List.drop_succ_cons, List.drop_zero]
  change wpStill _ _ W1.drew _ _ _
  iterate 13 still_step
  still_call (rot16 _ (x32_0 _ _) (x32_1 _ _) _)
  iterate 2 still_step
  refine wpStill_nil ?_
  change wpList _ _ _ _ _ W1.drew
  go_wp2
  obtain ⟨W2, ws2, hW, hs, U2, hl⟩ := U1.step L1.out d (rotI 65536 65536 (x32 (ix ws1 d) (ix ws1 a)))
  rw [← hW]
  have S2 := Lib.hid hs
  have L2 := Lib.hid hl
  clear hW hs hl cd ca fd
  have cd := U2.cell d (by rw [L2.out]; exact hd)
  have cc := U2.cell c (by rw [L2.out]; exact hc)
  have fc := U2.frozen c
  go_region
  go_wp2
  obtain ⟨W3, ws3, hW, hs, U3, hl⟩ := U2.step L2.out c (add32 (ix ws2 c) (ix ws2 d))
  unfold add32 at hW
  rw [← hW]
  have S3 := Lib.hid hs
  have L3 := Lib.hid hl
  clear hW hs hl cc cd fc
  have cb := U3.cell b (by rw [L3.out]; exact hb)
  have cc := U3.cell c (by rw [L3.out]; exact hc)
  have fb := U3.frozen b
  refine wp_region_still_tail 16 (by kernel_rfl) (by kernel_rfl) ?_
  simp only [List.take_succ_cons, List.take_zero, List.drop_succ_cons, List.drop_zero]
  change wpStill _ _ W3.drew _ _ _
  iterate 13 still_step
  still_call (rot12 _ (x32_0 _ _) (x32_1 _ _) _)
  iterate 2 still_step
  refine wpStill_nil ?_
  change wpList _ _ _ _ _ W3.drew
  go_wp2
  obtain ⟨W4, ws4, hW, hs, U4, hl⟩ := U3.step L3.out b (rotI 4096 1048576 (x32 (ix ws3 b) (ix ws3 c)))
  rw [← hW]
  have S4 := Lib.hid hs
  have L4 := Lib.hid hl
  clear hW hs hl cb cc fb
  have cb := U4.cell b (by rw [L4.out]; exact hb)
  have ca := U4.cell a (by rw [L4.out]; exact ha)
  have fa := U4.frozen a
  go_region
  go_wp2
  obtain ⟨W5, ws5, hW, hs, U5, hl⟩ := U4.step L4.out a (add32 (ix ws4 a) (ix ws4 b))
  unfold add32 at hW
  rw [← hW]
  have S5 := Lib.hid hs
  have L5 := Lib.hid hl
  clear hW hs hl ca cb fa
  have ca := U5.cell a (by rw [L5.out]; exact ha)
  have cd := U5.cell d (by rw [L5.out]; exact hd)
  have fd := U5.frozen d
  refine wp_region_still_tail 16 (by kernel_rfl) (by kernel_rfl) ?_
  simp only [List.take_succ_cons, List.take_zero, List.drop_succ_cons, List.drop_zero]
  change wpStill _ _ W5.drew _ _ _
  iterate 13 still_step
  still_call (rot8 _ (x32_0 _ _) (x32_1 _ _) _)
  iterate 2 still_step
  refine wpStill_nil ?_
  change wpList _ _ _ _ _ W5.drew
  go_wp2
  obtain ⟨W6, ws6, hW, hs, U6, hl⟩ := U5.step L5.out d (rotI 256 16777216 (x32 (ix ws5 d) (ix ws5 a)))
  rw [← hW]
  have S6 := Lib.hid hs
  have L6 := Lib.hid hl
  clear hW hs hl cd ca fd
  have cd := U6.cell d (by rw [L6.out]; exact hd)
  have cc := U6.cell c (by rw [L6.out]; exact hc)
  have fc := U6.frozen c
  go_region
  go_wp2
  obtain ⟨W7, ws7, hW, hs, U7, hl⟩ := U6.step L6.out c (add32 (ix ws6 c) (ix ws6 d))
  unfold add32 at hW
  rw [← hW]
  have S7 := Lib.hid hs
  have L7 := Lib.hid hl
  clear hW hs hl cc cd fc
  have cb := U7.cell b (by rw [L7.out]; exact hb)
  have cc := U7.cell c (by rw [L7.out]; exact hc)
  have fb := U7.frozen b
  refine wp_region_still_tail 16 (by kernel_rfl) (by kernel_rfl) ?_
  simp only [List.take_succ_cons, List.take_zero, List.drop_succ_cons, List.drop_zero]
  change wpStill _ _ W7.drew _ _ _
  iterate 13 still_step
  still_call (rot7 _ (x32_0 _ _) (x32_1 _ _) _)
  iterate 2 still_step
  refine wpStill_nil ?_
  change wpList _ _ _ _ _ W7.drew
  go_wp2
  obtain ⟨W8, ws8, hW, hs, U8, hl⟩ := U7.step L7.out b (rotI 128 33554432 (x32 (ix ws7 b) (ix ws7 c)))
  rw [← hW]
  have S8 := Lib.hid hs
  have L8 := Lib.hid hl
  clear hW hs hl cb cc fb
  go_end0
  refine ⟨rfl, ?_⟩
  have e : ws8 = qrI ws a b c d := by
    rw [S8.out, S7.out, S6.out, S5.out, S4.out, S3.out, S2.out, S1.out]; rfl
  rw [← e]
  exact U8
end Go.Proofs.YtfoljmpphbhobaaGreatDoor
namespace Go.Proofs.YtfoljmpphbhobaaGreatDoor
open Go.RowKit Go.Spk
set_option linter.unusedVariables false
/-- Four bytes as a number, the lowest first. -/
def word4 (b0 b1 b2 b3 : Int) : Int := b0 + 256 * b1 + 65536 * b2 + 16777216 * b3
theorem or_word {b0 b1 b2 b3 : Int} (l0 : 0 ≤ b0) (u0 : b0 ≤ 255) (l1 : 0 ≤ b1) (u1 : b1 ≤ 255) (l2 : 0 ≤ b2) (u2 : b2 ≤ 255) (l3 : 0 ≤ b3) (u3 : b3 ≤ 255) :
    bits BinOp.or IntKind.u32 (bits BinOp.or IntKind.u32 (bits BinOp.or IntKind.u32 b0 (b1 * 256)) (b2 * 65536)) (b3 * 16777216) = word4 b0 b1 b2 b3 := by
  obtain ⟨n0, rfl⟩ := Int.eq_ofNat_of_zero_le l0
  obtain ⟨n1, rfl⟩ := Int.eq_ofNat_of_zero_le l1
  obtain ⟨n2, rfl⟩ := Int.eq_ofNat_of_zero_le l2
  obtain ⟨n3, rfl⟩ := Int.eq_ofNat_of_zero_le l3
  have e1 : ((n1 : Int) * 256) = ((n1 * 256 : Nat) : Int) := by omega
  have e2 : ((n2 : Int) * 65536) = ((n2 * 65536 : Nat) : Int) := by omega
  have e3 : ((n3 : Int) * 16777216) = ((n3 * 16777216 : Nat) : Int) := by omega
  rw [e1, u32_or_nat _ _ (by omega) (by omega), Nat.or_comm, nat_join 8 _ _ (by omega) (by omega)]
  rw [e2, u32_or_nat _ _ (by omega) (by omega), Nat.or_comm, nat_join 16 _ _ (by omega) (by omega)]
  rw [e3, u32_or_nat _ _ (by omega) (by omega), Nat.or_comm, nat_join 24 _ _ (by omega) (by omega)]
  unfold word4; omega
set_option maxHeartbeats 1000000 in
theorem word_calls (g off n c : Nat) (b0 b1 b2 b3 : Int) (hn : 4 ≤ n) (hc : n ≤ c) (hm : c ≤ maxLen) (w : World)
   (h0 : w.cell? ⟨g, off, none⟩ = some (.int .u8 b0)) (h1 : w.cell? ⟨g, off + 1, none⟩ = some (.int .u8 b1)) (h2 : w.cell? ⟨g, off + 2, none⟩ = some (.int .u8 b2)) (h3 : w.cell? ⟨g, off + 3, none⟩ = some (.int .u8 b3))
   (l0 : 0 ≤ b0) (u0 : b0 ≤ 255) (l1 : 0 ≤ b1) (u1 : b1 ≤ 255) (l2 : 0 ≤ b2) (u2 : b2 ≤ 255) (l3 : 0 ≤ b3) (u3 : b3 ≤ 255) :
    Calls Tryz.prog 81 #[.slice (some ⟨g, off, none⟩) n c] w fun e w' => e = .returned (.int .u32 (word4 b0 b1 b2 b3)) ∧ ∃ m, w' = w.drewN m := by
  unfold maxLen at hm
  have i0 : (0 : Int) < n := by omega
  have i1 : (1 : Int) < n := by omega
  have i2 : (2 : Int) < n := by omega
  have i3 : (3 : Int) < n := by omega
  have eo := or_word l0 u0 l1 u1 l2 u2 l3 u3
  go_enter Tryz.func81, Tryz.ntmps81
  go_wp2
  go_quiet (fail)
  go_wp2
  go_ret
  exact ⟨rfl, _, rfl⟩
end Go.Proofs.YtfoljmpphbhobaaGreatDoor
namespace Go.Proofs.YtfoljmpphbhobaaGreatDoor
open Go.RowKit Go.Spk
set_option linter.unusedVariables false
def beginI : List Int := [1634760805, 857760878, 2036477234, 1797285236]
def ordN : List Nat := [0, 4, 8, 12, 1, 5, 9, 13, 2, 6, 10, 14, 3, 7, 11, 15, 0, 5, 10, 15, 1, 6, 11, 12, 2, 7, 8, 13, 3, 4, 9, 14]
def onth (i : Nat) : Nat := ordN.getD i 0
theorem onth_lt (i : Nat) : onth i < 16 := by
  by_cases h : i < 32
  · revert i; decide
  · have : onth i = 0 := by simp [onth, ordN, List.getD, Nat.le_of_not_lt h]
    omega
def orderC : List Value := ordN.map fun (n : Nat) => Value.int .i64 (n : Int)
theorem order_at (j : Nat) (hj : j < 8) (w : World) : (Instr.index 160 (.agg orderC.toArray) (.int .i64 (j : Int))).run Tryz.prog w =
    .ok (.agg #[.int .i64 (onth (4 * j) : Nat), .int .i64 (onth (4 * j + 1) : Nat), .int .i64 (onth (4 * j + 2) : Nat), .int .i64 (onth (4 * j + 3) : Nat)]) w := by
  rcases (by omega : j = 0 ∨ j = 1 ∨ j = 2 ∨ j = 3 ∨ j = 4 ∨ j = 5 ∨ j = 6 ∨ j = 7) with rfl | rfl | rfl | rfl | rfl | rfl | rfl | rfl <;> kernel_rfl
/-- j quarter rounds of a double round. -/
def qrs (l : List Int) : Nat → List Int
  | 0 => l
  | j + 1 => qrI (qrs l j) (onth (4 * j)) (onth (4 * j + 1)) (onth (4 * j + 2)) (onth (4 * j + 3))
def rounds20 (l : List Int) : Nat → List Int
  | 0 => l
  | k + 1 => qrs (rounds20 l k) 8
theorem qrI_length (l : List Int) (a b c d : Nat) : (qrI l a b c d).length = l.length := by simp [qrI]
theorem qrs_length (l : List Int) (j : Nat) : (qrs l j).length = l.length := by
  induction j with
  | zero => rfl
  | succ j ih => rw [qrs, qrI_length, ih]
theorem rounds20_length (l : List Int) (k : Nat) : (rounds20 l k).length = l.length := by
  induction k with
  | zero => rfl
  | succ k ih => rw [rounds20, qrs_length, ih]
/-- The i-th word of a list of bytes. -/
def wordAt (ks : List Int) (i : Nat) : Int := word4 (ix ks (4 * i)) (ix ks (4 * i + 1)) (ix ks (4 * i + 2)) (ix ks (4 * i + 3))
/-- n words of ks, laid into l from place o on. -/
def fillW (ks : List Int) (o : Nat) (l : List Int) : Nat → List Int
  | 0 => l
  | n + 1 => (fillW ks o l n).set (o + n) (wordAt ks n)
theorem fillW_length (ks : List Int) (o : Nat) (l : List Int) (n : Nat) : (fillW ks o l n).length = l.length := by
  induction n with
  | zero => rfl
  | succ n ih => simp [fillW, ih]
/-- The first state: constants, key, counter, nonce. -/
def stateI (ks : List Int) (ctr : Int) (ns : List Int) : List Int := fillW ns 13 ((fillW ks 4 (beginI ++ List.replicate 12 0) 8).set 12 ctr) 3
/-- The n-th byte of the block: of the sum of the last state X and the first state A. -/
def byteAt (X A : List Int) (n : Nat) : Int := add32 (ix X (n / 4)) (ix A (n / 4)) / 2 ^ (8 * (n % 4)) % 256
def layB (X A : List Int) : Nat → List Int
  | 0 => List.replicate 64 0
  | n + 1 => (layB X A n).set n (byteAt X A n)
theorem layB_length (X A : List Int) (n : Nat) : (layB X A n).length = 64 := by
  induction n with
  | zero => rfl
  | succ n ih => simp [layB, ih]
theorem ix_layB (X A : List Int) (n i : Nat) (hi : i < n) (hn : n ≤ 64) : ix (layB X A n) i = byteAt X A i := by
  induction n with
  | zero => omega
  | succ n ih =>
    unfold layB
    rw [ix_set _ _ _ _ (by rw [layB_length]; omega)]
    by_cases e : i = n
    · rw [if_pos e, e]
    · rw [if_neg e, ih (by omega) (by omega)]
theorem layB_map (X A : List Int) : layB X A 64 = (List.range 64).map (byteAt X A) := by
  refine ix_ext (by rw [layB_length]; rfl) fun i hi => ?_
  rw [layB_length] at hi
  rw [ix_layB X A 64 i hi (Nat.le_refl _)]
  simp [ix, List.getD, hi]
def blockI (ks : List Int) (ctr : Int) (ns : List Int) : List Int := layB (rounds20 (stateI ks ctr ns) 10) (stateI ks ctr ns) 64
theorem blockI_def (ks : List Int) (ctr : Int) (ns : List Int) : blockI ks ctr ns = layB (rounds20 (stateI ks ctr ns) 10) (stateI ks ctr ns) 64 := rfl
theorem blockI_length (ks : List Int) (ctr : Int) (ns : List Int) : (blockI ks ctr ns).length = 64 := layB_length _ _ _
theorem rowI_one (k : IntKind) (ws : List Int) : (rowI k ws).all (·.oneCell') = true := by
  rw [Array.all_eq_true_iff_forall_mem]; intro v hv; simp [rowI] at hv; obtain ⟨a, _, rfl⟩ := hv; rfl
theorem byteAt_of (X A : List Int) (i k : Nat) (hk : k < 4) : byteAt X A (4 * i + k) = add32 (ix X i) (ix A i) / 2 ^ (8 * k) % 256 := by
  unfold byteAt
  rw [show (4 * i + k) / 4 = i by omega, show (4 * i + k) % 4 = k by omega]
set_option maxRecDepth 100000 in
set_option maxHeartbeats 1000000 in
theorem block_calls (ks ns : List Int) (ctr : Int) (hk : ks.length = 32) (hn : ns.length = 12) (bk : U8s ks) (bn : U8s ns) (w : World)
   (t0 : w.rangeAt 21 0 (beginI.map (Value.int .u32))) (t1 : w.rangeAt 22 0 orderC) :
    Calls Tryz.prog 66 #[.agg (rowI .u8 ks), .int .u32 ctr, .agg (rowI .u8 ns)] w fun e w' => e = .returned (.agg (rowI .u8 (blockI ks ctr ns))) ∧ Below w.heap.size w w' := by
  have T0 := Lib.hid t0; have T1 := Lib.hid t1; clear t0 t1
  have HK := Lib.hid hk; have HN := Lib.hid hn; clear hk hn
  go_enter Tryz.func66, Tryz.ntmps66
  go_wp2
  refine name_wp (fun W => Below w.heap.size w W ∧ Sz W (w.heap.size + 4) ∧ Whole W w.heap.size 25 (rowI .u8 ks) ∧ Whole W (w.heap.size + 1) 70 (rowI .u8 ns) ∧
     Whole W (w.heap.size + 1 + 1) 127 (rowI .u8 (List.replicate 64 0)) ∧ Whole W (w.heap.size + 1 + 1 + 1) 155 (rowI .u32 (List.replicate 16 0))) ?_ ?_
  · refine ⟨?_, ?_, ?_, ?_, ?_, ?_⟩
    · go_grown
    · exact ((((show Sz w w.heap.size from rfl).alloc _).alloc _).alloc _).alloc _
    · exact (((Whole.new rfl rfl).alloc _).alloc _).alloc _
    · exact ((Whole.new (by simp) rfl).alloc _).alloc _
    · exact (Whole.new (by simp) rfl).alloc _
    · exact Whole.new (by simp) rfl
  intro W0 ⟨hB0, hz0, hk0, hn0, ho0, ha0⟩
  have hsrc : ∀ j v, (beginI.map (Value.int .u32))[j]? = some v → W0.drew.cell? ((⟨21, 0, none⟩ : Addr).add j) = some v := by
    intro j v hv
    rw [Addr.add_mid]
    have h1 := T0.out j v hv
    have h2 := block_lt_of_cell h1
    exact (hB0.cell h2).trans h1
  have hc := run_copy_row (P := Tryz.prog) W0.drew 156 156 3 65 (w.heap.size + 1 + 1 + 1) 0 16 16 ⟨21, 0, none⟩ 4 4 (rowI .u32 (List.replicate 16 0)) 155 (beginI.map (Value.int .u32))
    (by kernel_rfl) (by kernel_rfl) ha0 rfl hsrc (by decide) (by decide)
  clear hsrc
  go_region
  go_wp2
  have ha1 : Whole (W0.drew.setRow (w.heap.size + 1 + 1 + 1) (List.map (Value.int .u32) beginI ++ List.drop beginI.length (rowI IntKind.u32 [0, 0, 0, 0, 0, 0, 0, 0, 0, 0, 0, 0, 0, 0, 0, 0]).toList).toArray) (w.heap.size + 1 + 1 + 1) 155 (rowI .u32 (beginI ++ List.replicate 12 0)) := Whole.row ha0
  refine name_wp (fun W => Below w.heap.size w W ∧ Sz W (w.heap.size + 4) ∧ Whole W w.heap.size 25 (rowI .u8 ks) ∧ Whole W (w.heap.size + 1) 70 (rowI .u8 ns) ∧
     Whole W (w.heap.size + 1 + 1) 127 (rowI .u8 (List.replicate 64 0)) ∧ Whole W (w.heap.size + 1 + 1 + 1) 155 (rowI .u32 (beginI ++ List.replicate 12 0))) ?_ ?_
  · have hO := only_trans (only_drawn (World.grownBy.refl W0 (some (w.heap.size + 1 + 1 + 1)))) (only_row W0.drew (w.heap.size + 1 + 1 + 1) (List.map (Value.int .u32) beginI ++ List.drop beginI.length (rowI IntKind.u32 [0, 0, 0, 0, 0, 0, 0, 0, 0, 0, 0, 0, 0, 0, 0, 0]).toList).toArray)
    refine ⟨?_, ?_, ?_, ?_, ?_, ha1⟩
    · exact hB0.grown hO (by unfold Sz at hz0; omega) (fun k hk => by injection hk with hk; omega)
    · exact hz0.drew.row _ _
    · exact hk0.only hO (ne_some (by omega))
    · exact hn0.only hO (ne_some (by omega))
    · exact ho0.only hO (ne_some (by omega))
  clear ha1 hc ha0 ho0 hn0 hk0 hB0 hz0 W0
  intro W1 ⟨hB1, hz1, hk1, hn1, ho1, ha1⟩
  go_loopw [20] (fun i wr => ∃ k : Nat, k ≤ 8 ∧ i = .int .i64 k ∧ Upd W1 wr (w.heap.size + 1 + 1 + 1) 155 .u32 (fillW ks 4 (beginI ++ List.replicate 12 0) k) ∧ Sz wr (w.heap.size + 4)) (fun i _ => 8 - (intOf i).toNat)
  case atStart => exact ⟨0, by omega, rfl, Upd.start ha1, hz1⟩
  case round =>
    obtain ⟨k, hk, rfl, U, hsz⟩ := hrel
    by_cases hlt : k < 8
    · have hkk := U.other hk1 (by omega)
      have c0 := hkk.int (4 * k) (by rw [HK.out]; omega)
      have c1 := hkk.int (4 * k + 1) (by rw [HK.out]; omega)
      have c2 := hkk.int (4 * k + 2) (by rw [HK.out]; omega)
      have c3 := hkk.int (4 * k + 3) (by rw [HK.out]; omega)
      have cs := U.cell (4 + k) (by rw [fillW_length]; simp [beginI]; omega)
      have fs := U.frozen (4 + k)
      have hs := slice_arr_from (P := Tryz.prog) Tryz.underlying25 (by kernel_rfl) w.heap.size (4 * k) (by omega) (4 * (k : Int)) (by omega)
      go_wp2_with (go_at_call 81; refine (word_calls _ _ _ _ _ _ _ _ (by omega) (Nat.le_refl _) (by unfold maxLen; omega) _ c0 c1 c2 c3 (bk _).1 (bk _).2 (bk _).1 (bk _).2 (bk _).1 (bk _).2 (bk _).1 (bk _).2).mono ?_; rintro e w' ⟨rfl, m, rfl⟩)
      go_roundw
      case rel => exact ⟨k + 1, by omega, by go_num, ((U.drewN m).set (4 + k) _), (hsz.drewN m).set _ _⟩
      case measure => simp [intOf]; omega
    · obtain rfl : k = 8 := by omega
      rw [show ((8 : Nat) : Int) = 8 from rfl]
      have c12 := U.cell 12 (by rw [fillW_length]; decide)
      have f12 := U.frozen 12
      go_wp2
      have U2 := U.set 12 ctr
      have z2 := hsz.set ⟨w.heap.size + 1 + 1 + 1, 12, none⟩ (.int .u32 ctr)
      go_loopw [33] (fun i wr => ∃ k : Nat, k ≤ 3 ∧ i = .int .i64 k ∧ Upd W1 wr (w.heap.size + 1 + 1 + 1) 155 .u32 (fillW ns 13 ((fillW ks 4 (beginI ++ List.replicate 12 0) 8).set 12 ctr) k) ∧ Sz wr (w.heap.size + 4)) (fun i _ => 3 - (intOf i).toNat)
      case atStart => exact ⟨0, by omega, rfl, U2, z2⟩
      case round =>
        clear U2 z2 c12 f12 U hsz
        obtain ⟨k, hk, rfl, U, hsz⟩ := hrel
        by_cases hlt : k < 3
        · have hkk := U.other hn1 (by omega)
          have c0 := hkk.int (4 * k) (by rw [HN.out]; omega)
          have c1 := hkk.int (4 * k + 1) (by rw [HN.out]; omega)
          have c2 := hkk.int (4 * k + 2) (by rw [HN.out]; omega)
          have c3 := hkk.int (4 * k + 3) (by rw [HN.out]; omega)
          have cs := U.cell (13 + k) (by rw [fillW_length, List.length_set, fillW_length]; simp [beginI]; omega)
          have fs := U.frozen (13 + k)
          have hs := slice_arr_from (P := Tryz.prog) Tryz.underlying70 (by kernel_rfl) (w.heap.size + 1) (4 * k) (by omega) (4 * (k : Int)) (by omega)
          go_wp2_with (go_at_call 81; refine (word_calls _ _ _ _ _ _ _ _ (by omega) (Nat.le_refl _) (by unfold maxLen; omega) _ c0 c1 c2 c3 (bn _).1 (bn _).2 (bn _).1 (bn _).2 (bn _).1 (bn _).2 (bn _).1 (bn _).2).mono ?_; rintro e w' ⟨rfl, m, rfl⟩)
          go_roundw
          case rel => exact ⟨k + 1, by omega, by go_num, ((U.drewN m).set (13 + k) _), (hsz.drewN m).set _ _⟩
          case measure => simp [intOf]; omega
        · obtain rfl : k = 3 := by omega
          rw [show ((3 : Nat) : Int) = 3 from rfl]
          have hl3 : (fillW ns 13 ((fillW ks 4 (beginI ++ List.replicate 12 0) 8).set 12 ctr) 3).length = 16 := by rw [fillW_length, List.length_set, fillW_length]; rfl
          obtain ⟨A3, hA3⟩ : ∃ A, A = fillW ns 13 ((fillW ks 4 (beginI ++ List.replicate 12 0) 8).set 12 ctr) 3 := ⟨_, rfl⟩
          rw [← hA3] at U hl3
          have HA3 := Lib.hid hA3
          clear hA3
          have hs16 : (Tryz.prog.info? 155).map (·.size) = some (rowI .u32 A3).size := by rw [rowI_size, hl3]; kernel_rfl
          have hb := U.blk
          have HS := Lib.hid hs16
          have HL := Lib.hid hl3
          clear hs16 hl3
          go_wp2_with (first
            | (refine wpList_load_row rfl 155 (.tmp 7) rfl _ rfl 155 (rowI .u32 A3) (0, 0) _ hb Tryz.underlying155 rfl HS.out ?_)
            | (refine wpList_store_row rfl 155 (.tmp 10) (.tmp 44) rfl wr.heap.size (rowI .u32 A3) rfl rfl 155 _ (heap_alloc_new _ _) HS.out (by rw [rowI_size, HL.out]; rfl) (rowI_one _ _) ?_))
          refine name_wp (fun W => Below w.heap.size w W ∧ Sz W (w.heap.size + 5) ∧ Whole W (w.heap.size + 1 + 1) 127 (rowI .u8 (List.replicate 64 0)) ∧
              Whole W (w.heap.size + 1 + 1 + 1) 155 (rowI .u32 A3) ∧ Whole W wr.heap.size 155 (rowI .u32 A3)) ?_ ?_
          · have hB3 := U.below hB1 (by omega) (by unfold Sz at hz1; omega)
            refine ⟨?_, (hsz.alloc _).row _ _, (((U.other ho1 (by omega)).alloc _).only (only_row _ _ _) (ne_some (by unfold Sz at hsz; omega))), ((U.blk.alloc _).only (only_row _ _ _) (ne_some (by unfold Sz at hsz; omega))), Whole.row (Whole.new (cs' := _) rfl rfl)⟩
            exact (hB3.alloc hB3.size _).grown (only_row _ _ _) (by simp; exact Nat.le_succ_of_le hB3.size) (fun k hk => by injection hk with hk; subst hk; exact hB3.size)
          generalize hgx : wr.heap.size = gx
          have hgx' : gx = w.heap.size + 4 := by rw [← hgx]; exact hsz
          have hg1 : w.heap.size + 1 + 1 + 1 < gx := by omega
          clear hgx' hgx hsz U hb
          intro W3 ⟨hB3, hz3, ho3, ha3, hx3⟩
          go_loopw [45] (fun i wr => ∃ k : Nat, k ≤ 10 ∧ i = .int .i64 k ∧ Upd W3 wr gx 155 .u32 (rounds20 A3 k)) (fun i _ => 10 - (intOf i).toNat)
          case atStart => exact ⟨0, by omega, rfl, Upd.start hx3⟩
          case round =>
            obtain ⟨k, hk, rfl, U⟩ := hrel
            by_cases hlt : k < 10
            · obtain ⟨wo, rfl⟩ : ∃ wo : World, wo = wr := ⟨_, rfl⟩
              have hBo := U.below hB3 (by omega) (by unfold Sz at hz3; omega)
              have hT1 := rangeAt_below T1.out hBo
              have HT := Lib.hid hT1
              clear hT1
              have HlA := rounds20_length A3 k
              rw [HL.out] at HlA
              obtain ⟨R, hR⟩ : ∃ R, R = rounds20 A3 k := ⟨_, rfl⟩
              rw [← hR] at U HlA
              have HR := Lib.hid hR
              have HlR := Lib.hid HlA
              clear HlA hR
              go_wp2_with (refine wpList_load_mid rfl 160 (.global 22) rfl 22 0 rfl orderC _ HT.out Tryz.underlying160 rfl (by kernel_rfl) ?_)
              go_loopw [48] (fun i wr => ∃ j : Nat, j ≤ 8 ∧ i = .int .i64 j ∧ Upd W3 wr gx 155 .u32 (qrs R j)) (fun i _ => 8 - (intOf i).toNat)
              case atStart => exact ⟨0, by omega, rfl, U⟩
              case round =>
                clear U
                obtain ⟨j, hj, rfl, U⟩ := hrel
                by_cases hltj : j < 8
                · have hix := fun wx => order_at j hltj wx
                  go_wp2_with (go_at_call 82; refine (quarter_calls _ (qrs R j) _ _ _ _ (by rw [qrs_length, HlR.out]) (onth_lt _) (onth_lt _) (onth_lt _) (onth_lt _) _ (U.blk.alloc _)).mono ?_; rintro e w' ⟨rfl, hU⟩)
                  go_roundw
                  case rel => exact ⟨j + 1, by omega, by go_num, ⟨only_trans (only_made U.only _) hU.only, hU.blk⟩⟩
                  case measure => simp [intOf]; omega
                · obtain rfl : j = 8 := by omega
                  go_wp2
                  go_roundw
                  case rel => exact ⟨k + 1, by omega, by go_num, by rw [rounds20, ← HR.out]; exact U⟩
                  case measure => simp [intOf]; omega
            · obtain rfl : k = 10 := by omega
              rw [show ((10 : Nat) : Int) = 10 from rfl]
              have HlX := rounds20_length A3 10
              rw [HL.out] at HlX
              obtain ⟨X, hX⟩ : ∃ R, R = rounds20 A3 10 := ⟨_, rfl⟩
              rw [← hX] at U HlX
              have HX := Lib.hid hX
              have HLX := Lib.hid HlX
              have ha4 := U.other ha3 (by omega)
              have ho4 := U.other ho3 (by omega)
              have hx4 := U.blk
              have hB4 := U.below hB3 (by omega) (by unfold Sz at hz3; omega)
              have hlt4 := hx4.inside
              clear HlX hX U hB3 hz3 ho3 ha3 hx3
              go_wp2_with fail
              refine name_wp (fun W => Below w.heap.size w W ∧ Whole W (w.heap.size + 1 + 1) 127 (rowI .u8 (List.replicate 64 0)) ∧
                  Whole W (w.heap.size + 1 + 1 + 1) 155 (rowI .u32 A3) ∧ Whole W gx 155 (rowI .u32 X) ∧ Whole W wr.heap.size 127 (rowI .u8 (List.replicate 64 0))) ?_ ?_
              · exact ⟨hB4.alloc hB4.size _, ho4.alloc _, ha4.alloc _, hx4.alloc _, Whole.new rfl rfl⟩
              generalize hgo : wr.heap.size = go at hlt4 ⊢
              clear hB4 ho4 ha4 hx4 hgo
              intro W5 ⟨hB5, hr5, ha5, hx5, ho5⟩
              go_loopw [62] (fun i wr => ∃ i' : Nat, i' ≤ 16 ∧ i = .int .i64 i' ∧ Upd W5 wr go 127 .u8 (layB X A3 (4 * i'))) (fun i _ => 16 - (intOf i).toNat)
              case atStart => exact ⟨0, by omega, rfl, Upd.start ho5⟩
              case round =>
                obtain ⟨i, hi, rfl, U⟩ := hrel
                by_cases hlti : i < 16
                · obtain ⟨wo, rfl⟩ : ∃ wo : World, wo = wr := ⟨_, rfl⟩
                  have ii : (i : Int) < 16 := by omega
                  have cA := (U.other ha5 (by omega)).int i (by rw [HL.out]; exact hlti)
                  have cX := (U.other hx5 (by omega)).int i (by rw [HLX.out]; exact hlti)
                  go_wp2_with fail
                  go_quiet (fail)
                  go_wp2_with fail
                  have U' := U.drewN nq
                  clear U cA cX
                  go_loopw [72] (fun t wr => ∃ k : Nat, k ≤ 4 ∧ t = .int .i64 k ∧ Upd W5 wr go 127 .u8 (layB X A3 (4 * i + k))) (fun i _ => 4 - (intOf i).toNat)
                  case atStart => exact ⟨0, by omega, rfl, U'⟩
                  case round =>
                    clear U'
                    obtain ⟨k, hk, rfl, U⟩ := hrel
                    by_cases hltk : k < 4
                    · have cO := U.cell (4 * i + k) (by rw [layB_length]; omega)
                      have fO := U.frozen (4 * i + k)
                      go_wp2_with fail
                      go_roundw
                      case rel => exact ⟨k + 1, by omega, by go_num, by rw [← Nat.add_assoc, layB, byteAt_of X A3 i k hltk]; exact U.set (4 * i + k) _⟩
                      case measure => simp [intOf]; omega
                    · obtain rfl : k = 4 := by omega
                      go_wp2
                      go_roundw
                      case rel => exact ⟨i + 1, by omega, by go_num, U⟩
                      case measure => simp [intOf]; omega
                · obtain rfl : i = 16 := by omega
                  have hB6 := U.below hB5 (by omega) hB5.size
                  have hr6 := U.other hr5 (by omega)
                  have ho6 := U.blk
                  have hres : layB X A3 (4 * 16) = blockI ks ctr ns := by rw [HX.out, HA3.out]; rfl
                  rw [hres] at ho6
                  have hl6 : (blockI ks ctr ns).length = 64 := layB_length _ _ _
                  obtain ⟨Z, hZ⟩ : ∃ Z, Z = blockI ks ctr ns := ⟨_, rfl⟩
                  rw [← hZ] at ho6 hl6
                  have HZ := Lib.hid hZ
                  have hs64 : (Tryz.prog.info? 127).map (·.size) = some (rowI .u8 Z).size := by rw [rowI_size, hl6]; kernel_rfl
                  have HS6 := Lib.hid hs64
                  have HL6 := Lib.hid hl6
                  clear hs64 hl6 hres U hZ
                  go_wp2_with (first
                    | (refine wpList_load_row rfl 127 (.tmp 13) rfl _ rfl 127 (rowI .u8 Z) (0, 0) _ ho6 Tryz.underlying127 rfl HS6.out ?_)
                    | (refine wpList_store_row rfl 127 (.tmp 6) (.tmp 87) rfl (w.heap.size + 1 + 1) (rowI .u8 Z) rfl rfl 127 _ hr6 HS6.out (by simp [rowI_size, HL6.out]) (rowI_one _ _) ?_))
                  refine bodyPost_ret (results_cell_row (fn := Tryz.f66) (p := 6) rfl _ _ (w.heap.size + 1 + 1) 127 (rowI .u8 Z) (0, 0) _ rfl (Whole.row hr6) Tryz.underlying127 rfl HS6.out) rfl ⟨by rw [HZ.out], ?_⟩
                  exact hB6.grown (only_row wr (w.heap.size + 1 + 1) _) hB6.size (fun k hk => by injection hk with hk; omega)
attribute [irreducible] blockI
end Go.Proofs.YtfoljmpphbhobaaGreatDoor
namespace Go.Proofs.YtfoljmpphbhobaaGreatDoor
open Go.RowKit Go.Spk
set_option linter.unusedVariables false
def x8 (a b : Int) : Int := bits .xor .u8 a b
theorem x8_eq (a b : Int) : bits .xor .u8 a b = x8 a b := rfl
theorem x8_0 (a b : Int) : 0 ≤ x8 a b ∧ x8 a b ≤ 255 := by
  unfold x8 bits
  rw [IntKind.wrap_u8']
  omega
/-- The byte n of the key stream. -/
def streamI (ks : List Int) (ctr : Int) (ns : List Int) (n : Nat) : Int := ix (blockI ks ((ctr + (n / 64 : Nat)) % 4294967296) ns) (n % 64)
/-- The list ws, of which the first n bytes are xored with the stream. -/
def xorT (ks : List Int) (ctr : Int) (ns : List Int) (ws : List Int) : Nat → List Int
  | 0 => ws
  | n + 1 => (xorT ks ctr ns ws n).set n (x8 (ix ws n) (streamI ks ctr ns n))
theorem xorT_length (ks ctr ns ws n) : (xorT ks ctr ns ws n).length = ws.length := by
  induction n with
  | zero => rfl
  | succ n ih => simp [xorT, ih]
theorem xorT_ahead (ks ctr ns ws) (n j : Nat) (h : n ≤ j) : ix (xorT ks ctr ns ws n) j = ix ws j := by
  induction n with
  | zero => rfl
  | succ n ih =>
    unfold xorT
    by_cases hl : n < (xorT ks ctr ns ws n).length
    · rw [ix_set _ _ _ _ hl, if_neg (by omega), ih (by omega)]
    · rw [List.set_eq_of_length_le (by omega), ih (by omega)]
theorem ix_xorT (ks ctr ns ws) (n i : Nat) (hn : n ≤ ws.length) (hi : i < n) : ix (xorT ks ctr ns ws n) i = x8 (ix ws i) (streamI ks ctr ns i) := by
  induction n with
  | zero => omega
  | succ n ih =>
    unfold xorT
    rw [ix_set _ _ _ _ (by rw [xorT_length]; omega)]
    by_cases e : i = n
    · subst e; rw [if_pos rfl]
    · rw [if_neg e, ih (by omega) (by omega)]
/-- All bytes xored. -/
def xorI (ks : List Int) (ctr : Int) (ns : List Int) (ws : List Int) : List Int := xorT ks ctr ns ws ws.length
set_option maxRecDepth 100000 in
set_option maxHeartbeats 1000000 in
theorem xor_calls (ks ns : List Int) (ctr : Int) (s : ByteArray) (hk : ks.length = 32) (hn : ns.length = 12) (bk : U8s ks) (bn : U8s ns) (hc0 : 0 ≤ ctr) (hc1 : ctr < 4294967296) (hs : s.size ≤ 1000000000000) (w : World)
   (t0 : w.rangeAt 21 0 (beginI.map (Value.int .u32))) (t1 : w.rangeAt 22 0 orderC) :
    Calls Tryz.prog 47 #[.agg (rowI .u8 ks), .int .u32 ctr, .agg (rowI .u8 ns), .string s] w
      fun e w' => e = .returned (.string (strOfNums (xorI ks ctr ns (bI s)))) ∧ Below w.heap.size w w' := by
  have T0 := Lib.hid t0; have T1 := Lib.hid t1; clear t0 t1
  have HK := Lib.hid hk; have HN := Lib.hid hn; clear hk hn
  have hcv := fun wx : World => run_bytes_of_string (P := Tryz.prog) wx 9 33 5 s Tryz.underlying9 Tryz.underlying33 Tryz.underlying5
  go_enter Tryz.func47, Tryz.ntmps47
  go_wp2_with fail
  have hcap := grownCap_ge ((w.alloc (Obj.cells (rowI IntKind.u8 ks) 25)).alloc (Obj.cells (rowI IntKind.u8 ns) 70)) s.size 0 5
  generalize grownCap ((w.alloc (Obj.cells (rowI IntKind.u8 ks) 25)).alloc (Obj.cells (rowI IntKind.u8 ns) 70)) s.size 0 5 = c at hcap ⊢
  obtain ⟨ws, hws⟩ : ∃ ws, ws = bI s ++ List.replicate (c - s.size) 0 := ⟨_, rfl⟩
  refine name_wp (fun W => Below w.heap.size w W ∧ Whole W w.heap.size 25 (rowI .u8 ks) ∧ Whole W (w.heap.size + 1) 70 (rowI .u8 ns) ∧
     ∃ m, Bys W (w.heap.size + 1 + 1) 5 m ws) ?_ ?_
  · refine ⟨?_, ?_, ?_, ?_⟩
    · go_grown
    · exact ((Whole.new rfl rfl).alloc _).alloc _
    · exact (Whole.new (by simp) rfl).alloc _
    · rw [hws]; exact ⟨_, Bys.made (by simp) s c _⟩
  intro W0 ⟨hB0, hk0, hn0, m, ho0⟩
  have hlw : ws.length = c := by rw [hws, List.length_append, bI_length, List.length_replicate]; omega
  have HW := Lib.hid hws
  have HLW := Lib.hid hlw
  clear hws hlw hcv
  go_loopw [1, 10] (fun c1 at1 wr => ∃ j : Nat, 64 * j < s.size + 64 ∧ at1 = .int .i64 (64 * (j : Int)) ∧ c1 = .int .u32 ((ctr + (j : Int)) % 4294967296) ∧ Below w.heap.size w wr ∧
     Whole wr w.heap.size 25 (rowI .u8 ks) ∧ Whole wr (w.heap.size + 1) 70 (rowI .u8 ns) ∧ Bys wr (w.heap.size + 1 + 1) 5 m (xorT ks ctr ns ws (min (64 * j) s.size)))
     (fun _ i _ => s.size - (intOf i).toNat)
  case atStart => exact ⟨0, by omega, rfl, by congr 1; omega, hB0, hk0, hn0, by rw [show min (64 * 0) s.size = 0 by omega]; exact ho0⟩
  case round =>
    clear hB0 hk0 hn0 ho0 W0
    obtain ⟨j, hj, rfl, rfl, hB, hkr, hnr, hor⟩ := hrel
    by_cases hlt : 64 * j < s.size
    · have hks := hkr.inside
      have hs1 : (Tryz.prog.info? 25).map (·.size) = some (rowI .u8 ks).size := by rw [rowI_size, HK.out]; kernel_rfl
      have hs2 : (Tryz.prog.info? 70).map (·.size) = some (rowI .u8 ns).size := by rw [rowI_size, HN.out]; kernel_rfl
      have H1 := Lib.hid hs1; have H2 := Lib.hid hs2
      clear hs1 hs2
      go_wp2_with (first
        | (refine wpList_load_row rfl 25 (.tmp 4) rfl _ rfl 25 (rowI .u8 ks) (0, 0) _ hkr Tryz.underlying25 rfl H1.out ?_)
        | (refine wpList_load_row rfl 70 (.tmp 6) rfl _ rfl 70 (rowI .u8 ns) (0, 0) _ hnr Tryz.underlying70 rfl H2.out ?_)
        | fail)
      refine (block_calls ks ns _ HK.out HN.out bk bn _ (rangeAt_below T0.out hB) (rangeAt_below T1.out hB)).mono ?_
      rintro e w1 ⟨rfl, hb1⟩
      obtain ⟨Z, hZ⟩ : ∃ Z, Z = blockI ks ((ctr + (j : Int)) % 4294967296) ns := ⟨_, rfl⟩
      have hZl : Z.length = 64 := by rw [hZ]; exact blockI_length _ _ _
      rw [← hZ]
      have HZ := Lib.hid hZ
      have hs3 : (Tryz.prog.info? 127).map (·.size) = some (rowI .u8 Z).size := by rw [rowI_size, hZl]; kernel_rfl
      have H3 := Lib.hid hs3; have HZL := Lib.hid hZl
      clear hs3 hZl hZ
      go_wp2_with (refine wpList_store_row rfl 127 (.tmp 11) (.tmp 24) rfl w1.heap.size (rowI .u8 Z) rfl rfl 127 _ (heap_alloc_new _ _) H3.out (by rw [rowI_size, HZL.out]; rfl) (rowI_one _ _) ?_)
      have hmin : min (64 * j) s.size = 64 * j := by omega
      rw [hmin] at hor
      clear hmin
      refine name_wp (fun W => Below w.heap.size w W ∧ Whole W w.heap.size 25 (rowI .u8 ks) ∧ Whole W (w.heap.size + 1) 70 (rowI .u8 ns) ∧
         Bys W (w.heap.size + 1 + 1) 5 m (xorT ks ctr ns ws (64 * j)) ∧ Whole W w1.heap.size 127 (rowI .u8 Z)) ?_ ?_
      · have h1 : Below w.heap.size w w1 := hB.trans (hb1.mono hB.size)
        have hg := hor.inside
        have hz := hb1.size
        refine ⟨(h1.alloc h1.size _).grown (only_row _ _ _) (by simp; exact Nat.le_succ_of_le h1.size) (fun k hk => by injection hk with hk; subst hk; exact h1.size), ?_, ?_, ?_, Whole.row (Whole.new (cs' := _) rfl rfl)⟩
        · exact ((hkr.below hb1 (by omega)).alloc _).only (only_row _ _ _) (ne_some (by omega))
        · exact ((hnr.below hb1 (by omega)).alloc _).only (only_row _ _ _) (ne_some (by omega))
        · exact ((hor.below hb1 hg).alloc _).other (only_row _ _ _) (ne_some (by omega))
      have hgb : w.heap.size + 1 + 1 < w1.heap.size := by have := hor.inside; have := hb1.size; omega
      generalize w1.heap.size = gb at hgb ⊢
      clear hb1 hkr hnr hor hB hks w1
      intro W2 ⟨hB2, hk2, hn2, ho2, hz2⟩
      go_loopw [12] (fun i wr => ∃ t : Nat, 64 * j ≤ t ∧ t ≤ s.size ∧ t ≤ 64 * j + 64 ∧ i = .int .i64 t ∧ W2.grownBy wr (some (w.heap.size + 1 + 1)) ∧ Bys wr (w.heap.size + 1 + 1) 5 m (xorT ks ctr ns ws t)) (fun i _ => s.size - (intOf i).toNat)
      case atStart => exact ⟨64 * j, by omega, by omega, by omega, by go_num, World.grownBy.refl _ _, ho2⟩
      case round =>
        obtain ⟨t, ht1, ht2, ht3, rfl, hO, hY⟩ := hrel
        by_cases hc : t < 64 * j + 64 ∧ t < s.size
        · obtain ⟨hc1, hc2⟩ := hc
          have hlx : (xorT ks ctr ns ws t).length = c := by rw [xorT_length, HLW.out]
          have cO := hY.cell t (by rw [hlx]; omega)
          rw [xorT_ahead _ _ _ _ _ _ (Nat.le_refl t)] at cO
          have fO := hY.frozen t (by rw [hlx]; omega)
          have cB := (hz2.only hO (ne_some (by omega))).int (t - 64 * j) (by rw [HZL.out]; omega)
          have ex := x8_eq
          have HLX := Lib.hid hlx
          have i1 : (0 : Int) ≤ (t : Int) - 64 * (j : Int) := by omega
          have i2 : (t : Int) - 64 * (j : Int) < 64 := by omega
          have i3 : (t : Int) < s.size := by omega
          have i4 : ((t : Int) - 64 * (j : Int)).toNat = t - 64 * j := by omega
          clear hlx
          have hst : x8 (ix ws t) (ix Z (t - 64 * j)) = x8 (ix ws t) (streamI ks ctr ns t) := by
            unfold streamI
            rw [show t / 64 = j by omega, show t % 64 = t - 64 * j by omega, ← HZ.out]
          have HST := Lib.hid hst
          clear hst
          go_wp2_with fail
          all_goals
            go_region
            go_wp2_with fail
            go_roundw
            case rel => exact ⟨t + 1, by omega, by omega, by omega, by go_num, only_trans (only_drawn hO) (only_stored _ rfl _), by rw [xorT, ← HST.out]; exact hY.drew.set t _⟩
            case measure => simp [intOf]; omega
        · have ht : t = min (64 * (j + 1)) s.size := by omega
          have hB3 := hB2.grown hO hB2.size (fun k hk => by injection hk with hk; omega)
          go_wp2_with fail
          all_goals
            go_roundw
            case rel =>
              refine ⟨j + 1, by omega, by go_num, by congr 1; omega, hB3, hk2.only hO (ne_some (by omega)), hn2.only hO (ne_some (by omega)), by rw [← ht]; exact hY⟩
            case measure => simp [intOf]; omega
    · have hmin : min (64 * j) s.size = s.size := by omega
      rw [hmin] at hor
      have hrun := fun D hD => run_convert_bytes_arg (P := Tryz.prog) wr 33 5 Tryz.underlying33 Tryz.underlying5 (w.heap.size + 1 + 1) 0 s.size c (xorI ks ctr ns (bI s)) (by rw [xorI, xorT_length, bI_length]) (fun i hi => by
        rw [Nat.zero_add, hor.cell i (by rw [xorT_length, HLW.out]; omega)]
        have e1 := ix_xorT ks ctr ns ws s.size i (by rw [HLW.out]; omega) hi
        have e2 := ix_xorT ks ctr ns (bI s) (bI s).length i (Nat.le_refl _) (by rw [bI_length]; exact hi)
        have e3 : ix ws i = ix (bI s) i := by rw [HW.out, ix_append_left _ _ _ (by rw [bI_length]; exact hi)]
        rw [e1, e3, ← e2]
        rfl) D hD
      have hr := hrun 9 Tryz.underlying9
      clear hrun hmin
      go_wp2
      go_ret
      exact ⟨rfl, hB⟩
theorem xorI_map (ks ctr ns ws) : xorI ks ctr ns ws = (List.range ws.length).map (fun n => x8 (ix ws n) (streamI ks ctr ns n)) := by
  unfold xorI
  refine ix_ext (by rw [xorT_length]; simp) fun i hi => ?_
  rw [xorT_length] at hi
  rw [ix_xorT _ _ _ _ _ _ (Nat.le_refl _) hi]
  simp [ix, List.getD, hi]
theorem xorI_length (ks ctr ns ws) : (xorI ks ctr ns ws).length = ws.length := by unfold xorI; exact xorT_length _ _ _ _ _
theorem ix_xorI (ks ctr ns ws) (i : Nat) (hi : i < ws.length) : ix (xorI ks ctr ns ws) i = x8 (ix ws i) (streamI ks ctr ns i) := by
  unfold xorI; exact ix_xorT _ _ _ _ _ _ (Nat.le_refl _) hi
attribute [irreducible] xorI
end Go.Proofs.YtfoljmpphbhobaaGreatDoor
namespace Go.Proofs.YtfoljmpphbhobaaGreatDoor
open Go.RowKit Go.Spk
set_option linter.unusedVariables false
def leftI (x : Int) : Nat → Int
  | 0 => x
  | k + 1 => if 4294967296 ≤ leftI x k * 2 then leftI x k * 2 - 4294967296 + 1 else leftI x k * 2
theorem leftI_bd (x : Int) (h0 : 0 ≤ x) (h1 : x < 4294967296) (k : Nat) : 0 ≤ leftI x k ∧ leftI x k < 4294967296 := by
  induction k with
  | zero => exact ⟨h0, h1⟩
  | succ k ih => unfold leftI; split <;> omega
theorem leftI_1 (x : Int) (h0 : 0 ≤ x) (h1 : x < 4294967296) : leftI x 1 = x * 2 % 4294967296 + x / 2147483648 := by
  show (if 4294967296 ≤ x * 2 then x * 2 - 4294967296 + 1 else x * 2) = _
  split <;> omega
theorem leftI_2 (x : Int) (h0 : 0 ≤ x) (h1 : x < 4294967296) : leftI x 2 = x * 4 % 4294967296 + x / 1073741824 := by
  have h := leftI_1 x h0 h1
  show (if 4294967296 ≤ leftI x 1 * 2 then leftI x 1 * 2 - 4294967296 + 1 else leftI x 1 * 2) = _
  rw [h]
  split <;> omega
theorem leftI_3 (x : Int) (h0 : 0 ≤ x) (h1 : x < 4294967296) : leftI x 3 = x * 8 % 4294967296 + x / 536870912 := by
  have h := leftI_2 x h0 h1
  show (if 4294967296 ≤ leftI x 2 * 2 then leftI x 2 * 2 - 4294967296 + 1 else leftI x 2 * 2) = _
  rw [h]
  split <;> omega
theorem leftI_4 (x : Int) (h0 : 0 ≤ x) (h1 : x < 4294967296) : leftI x 4 = x * 16 % 4294967296 + x / 268435456 := by
  have h := leftI_3 x h0 h1
  show (if 4294967296 ≤ leftI x 3 * 2 then leftI x 3 * 2 - 4294967296 + 1 else leftI x 3 * 2) = _
  rw [h]
  split <;> omega
theorem leftI_5 (x : Int) (h0 : 0 ≤ x) (h1 : x < 4294967296) : leftI x 5 = x * 32 % 4294967296 + x / 134217728 := by
  have h := leftI_4 x h0 h1
  show (if 4294967296 ≤ leftI x 4 * 2 then leftI x 4 * 2 - 4294967296 + 1 else leftI x 4 * 2) = _
  rw [h]
  split <;> omega
theorem leftI_6 (x : Int) (h0 : 0 ≤ x) (h1 : x < 4294967296) : leftI x 6 = x * 64 % 4294967296 + x / 67108864 := by
  have h := leftI_5 x h0 h1
  show (if 4294967296 ≤ leftI x 5 * 2 then leftI x 5 * 2 - 4294967296 + 1 else leftI x 5 * 2) = _
  rw [h]
  split <;> omega
theorem leftI_7 (x : Int) (h0 : 0 ≤ x) (h1 : x < 4294967296) : leftI x 7 = x * 128 % 4294967296 + x / 33554432 := by
  have h := leftI_6 x h0 h1
  show (if 4294967296 ≤ leftI x 6 * 2 then leftI x 6 * 2 - 4294967296 + 1 else leftI x 6 * 2) = _
  rw [h]
  split <;> omega
theorem leftI_8 (x : Int) (h0 : 0 ≤ x) (h1 : x < 4294967296) : leftI x 8 = x * 256 % 4294967296 + x / 16777216 := by
  have h := leftI_7 x h0 h1
  show (if 4294967296 ≤ leftI x 7 * 2 then leftI x 7 * 2 - 4294967296 + 1 else leftI x 7 * 2) = _
  rw [h]
  split <;> omega
theorem leftI_9 (x : Int) (h0 : 0 ≤ x) (h1 : x < 4294967296) : leftI x 9 = x * 512 % 4294967296 + x / 8388608 := by
  have h := leftI_8 x h0 h1
  show (if 4294967296 ≤ leftI x 8 * 2 then leftI x 8 * 2 - 4294967296 + 1 else leftI x 8 * 2) = _
  rw [h]
  split <;> omega
theorem leftI_10 (x : Int) (h0 : 0 ≤ x) (h1 : x < 4294967296) : leftI x 10 = x * 1024 % 4294967296 + x / 4194304 := by
  have h := leftI_9 x h0 h1
  show (if 4294967296 ≤ leftI x 9 * 2 then leftI x 9 * 2 - 4294967296 + 1 else leftI x 9 * 2) = _
  rw [h]
  split <;> omega
theorem leftI_11 (x : Int) (h0 : 0 ≤ x) (h1 : x < 4294967296) : leftI x 11 = x * 2048 % 4294967296 + x / 2097152 := by
  have h := leftI_10 x h0 h1
  show (if 4294967296 ≤ leftI x 10 * 2 then leftI x 10 * 2 - 4294967296 + 1 else leftI x 10 * 2) = _
  rw [h]
  split <;> omega
theorem leftI_12 (x : Int) (h0 : 0 ≤ x) (h1 : x < 4294967296) : leftI x 12 = x * 4096 % 4294967296 + x / 1048576 := by
  have h := leftI_11 x h0 h1
  show (if 4294967296 ≤ leftI x 11 * 2 then leftI x 11 * 2 - 4294967296 + 1 else leftI x 11 * 2) = _
  rw [h]
  split <;> omega
theorem leftI_13 (x : Int) (h0 : 0 ≤ x) (h1 : x < 4294967296) : leftI x 13 = x * 8192 % 4294967296 + x / 524288 := by
  have h := leftI_12 x h0 h1
  show (if 4294967296 ≤ leftI x 12 * 2 then leftI x 12 * 2 - 4294967296 + 1 else leftI x 12 * 2) = _
  rw [h]
  split <;> omega
theorem leftI_14 (x : Int) (h0 : 0 ≤ x) (h1 : x < 4294967296) : leftI x 14 = x * 16384 % 4294967296 + x / 262144 := by
  have h := leftI_13 x h0 h1
  show (if 4294967296 ≤ leftI x 13 * 2 then leftI x 13 * 2 - 4294967296 + 1 else leftI x 13 * 2) = _
  rw [h]
  split <;> omega
theorem leftI_15 (x : Int) (h0 : 0 ≤ x) (h1 : x < 4294967296) : leftI x 15 = x * 32768 % 4294967296 + x / 131072 := by
  have h := leftI_14 x h0 h1
  show (if 4294967296 ≤ leftI x 14 * 2 then leftI x 14 * 2 - 4294967296 + 1 else leftI x 14 * 2) = _
  rw [h]
  split <;> omega
theorem leftI_16 (x : Int) (h0 : 0 ≤ x) (h1 : x < 4294967296) : leftI x 16 = x * 65536 % 4294967296 + x / 65536 := by
  have h := leftI_15 x h0 h1
  show (if 4294967296 ≤ leftI x 15 * 2 then leftI x 15 * 2 - 4294967296 + 1 else leftI x 15 * 2) = _
  rw [h]
  split <;> omega
theorem rotI_sum (i : Nat) (m q x : Int) (h : bits BinOp.or IntKind.u32 (x * m % 4294967296) (x / q) = x * m % 4294967296 + x / q) : rotI m q x = x * m % 4294967296 + x / q := h
theorem left16_eq (x : Int) (h0 : 0 ≤ x) (h1 : x < 4294967296) : leftI x 16 = rotI 65536 65536 x := by
  rw [leftI_16 x h0 h1]
  obtain ⟨y, rfl⟩ := Int.eq_ofNat_of_zero_le h0
  have e1 : (y : Int) * 65536 % 4294967296 = ((y * 65536 % 4294967296 : Nat) : Int) := by omega
  have e2 : (y : Int) / 65536 = ((y / 65536 : Nat) : Int) := by omega
  unfold rotI
  rw [e1, e2, u32_or_nat _ _ (by omega) (by omega), nat_join 16 _ _ (by omega) (by omega)]
  omega
theorem left12_eq (x : Int) (h0 : 0 ≤ x) (h1 : x < 4294967296) : leftI x 12 = rotI 4096 1048576 x := by
  rw [leftI_12 x h0 h1]
  obtain ⟨y, rfl⟩ := Int.eq_ofNat_of_zero_le h0
  have e1 : (y : Int) * 4096 % 4294967296 = ((y * 4096 % 4294967296 : Nat) : Int) := by omega
  have e2 : (y : Int) / 1048576 = ((y / 1048576 : Nat) : Int) := by omega
  unfold rotI
  rw [e1, e2, u32_or_nat _ _ (by omega) (by omega), nat_join 12 _ _ (by omega) (by omega)]
  omega
theorem left8_eq (x : Int) (h0 : 0 ≤ x) (h1 : x < 4294967296) : leftI x 8 = rotI 256 16777216 x := by
  rw [leftI_8 x h0 h1]
  obtain ⟨y, rfl⟩ := Int.eq_ofNat_of_zero_le h0
  have e1 : (y : Int) * 256 % 4294967296 = ((y * 256 % 4294967296 : Nat) : Int) := by omega
  have e2 : (y : Int) / 16777216 = ((y / 16777216 : Nat) : Int) := by omega
  unfold rotI
  rw [e1, e2, u32_or_nat _ _ (by omega) (by omega), nat_join 8 _ _ (by omega) (by omega)]
  omega
theorem left7_eq (x : Int) (h0 : 0 ≤ x) (h1 : x < 4294967296) : leftI x 7 = rotI 128 33554432 x := by
  rw [leftI_7 x h0 h1]
  obtain ⟨y, rfl⟩ := Int.eq_ofNat_of_zero_le h0
  have e1 : (y : Int) * 128 % 4294967296 = ((y * 128 % 4294967296 : Nat) : Int) := by omega
  have e2 : (y : Int) / 33554432 = ((y / 33554432 : Nat) : Int) := by omega
  unfold rotI
  rw [e1, e2, u32_or_nat _ _ (by omega) (by omega), nat_join 7 _ _ (by omega) (by omega)]
  omega
set_option maxHeartbeats 1000000 in
theorem left_calls (x : Int) (n : Nat) (h0 : 0 ≤ x) (h1 : x < 4294967296) (hn : n ≤ 64) (w : World) :
    Calls Tryz.prog 103 #[.int .u64 x, .int .i64 n] w fun e w' => e = .returned (.int .u64 (leftI x n)) ∧ w' = w := by
  go_enter Tryz.func103, Tryz.ntmps103
  go_wp2
  go_loop [0, 5] (fun y i => ∃ k : Nat, k ≤ n ∧ i = .int .i64 k ∧ y = .int .u64 (leftI x k)) (fun _ i => n - (intOf i).toNat)
  case atStart => exact ⟨0, by omega, rfl, rfl⟩
  case round =>
    obtain ⟨k, hk, rfl, rfl⟩ := hrel
    have hb := leftI_bd x h0 h1 k
    obtain ⟨b0, b1⟩ := hb
    by_cases hlt : k < n
    · have hst : leftI x (k + 1) = if 4294967296 ≤ leftI x k * 2 then leftI x k * 2 - 4294967296 + 1 else leftI x k * 2 := rfl
      have HS := Lib.hid hst
      clear hst
      by_cases hc : 4294967296 ≤ leftI x k * 2
      all_goals
        go_wp2
        go_round
        case rel => exact ⟨k + 1, by omega, by go_num, by rw [HS.out]; first | rw [if_pos hc] | rw [if_neg hc]⟩
        case measure => simp [intOf]; omega
    · obtain rfl : k = n := by omega
      go_wp2
      go_ret
      exact ⟨rfl, rfl⟩
theorem left16 (x : Int) (h0 : 0 ≤ x) (h1 : x < 4294967296) (w : World) :
    Calls Tryz.prog 103 #[.int .u64 x, .int .i64 16] w fun e w' => e = .returned (.int .u64 (rotI 65536 65536 x)) ∧ w' = w := by
  have h := left_calls x 16 h0 h1 (by omega) w
  rw [left16_eq x h0 h1] at h
  exact h
theorem left12 (x : Int) (h0 : 0 ≤ x) (h1 : x < 4294967296) (w : World) :
    Calls Tryz.prog 103 #[.int .u64 x, .int .i64 12] w fun e w' => e = .returned (.int .u64 (rotI 4096 1048576 x)) ∧ w' = w := by
  have h := left_calls x 12 h0 h1 (by omega) w
  rw [left12_eq x h0 h1] at h
  exact h
theorem left8 (x : Int) (h0 : 0 ≤ x) (h1 : x < 4294967296) (w : World) :
    Calls Tryz.prog 103 #[.int .u64 x, .int .i64 8] w fun e w' => e = .returned (.int .u64 (rotI 256 16777216 x)) ∧ w' = w := by
  have h := left_calls x 8 h0 h1 (by omega) w
  rw [left8_eq x h0 h1] at h
  exact h
theorem left7 (x : Int) (h0 : 0 ≤ x) (h1 : x < 4294967296) (w : World) :
    Calls Tryz.prog 103 #[.int .u64 x, .int .i64 7] w fun e w' => e = .returned (.int .u64 (rotI 128 33554432 x)) ∧ w' = w := by
  have h := left_calls x 7 h0 h1 (by omega) w
  rw [left7_eq x h0 h1] at h
  exact h
/-- All words are below 2^32. -/
def W32 (ws : List Int) : Prop := ∀ i, 0 ≤ ix ws i ∧ ix ws i < 4294967296
theorem W32.set {ws : List Int} (h : W32 ws) (i : Nat) (v : Int) (h0 : 0 ≤ v) (h1 : v < 4294967296) : W32 (ws.set i v) := by
  intro j
  by_cases hl : i < ws.length
  · rw [ix_set _ _ _ _ hl]; split
    · exact ⟨h0, h1⟩
    · exact h j
  · rw [List.set_eq_of_length_le (by omega)]; exact h j
theorem rotI_bd (m q x : Int) : 0 ≤ rotI m q x ∧ rotI m q x < 4294967296 := bits_u32 .or _ _ (.inr rfl)
theorem add32_bd (a b : Int) : 0 ≤ add32 a b ∧ add32 a b < 4294967296 := by unfold add32; omega
theorem x64_eq (a b : Int) (h0 : 0 ≤ a) (h1 : a < 4294967296) (h2 : 0 ≤ b) (h3 : b < 4294967296) : bits .xor .u64 a b = x32 a b := by
  obtain ⟨a, rfl⟩ := Int.eq_ofNat_of_zero_le h0
  obtain ⟨b, rfl⟩ := Int.eq_ofNat_of_zero_le h2
  unfold x32
  rw [u64_xor_nat _ _ (by omega) (by omega), u32_xor_nat _ _ (by omega) (by omega)]
/-- A double step of a quarter round: word x is added word y, word z is xored with word u and turned. -/
def dq (l : List Int) (x y z u : Nat) (m q : Int) : List Int :=
  let w1 := l.set x (add32 (ix l x) (ix l y)); w1.set z (rotI m q (x32 (ix w1 z) (ix w1 u)))
/-- n of the four double steps. -/
def rq (ws : List Int) (a b c d : Nat) (n : Nat) : List Int :=
  match n with
  | 0 => ws
  | 1 => dq ws a b d a 65536 65536
  | 2 => dq (dq ws a b d a 65536 65536) c d b c 4096 1048576
  | 3 => dq (dq (dq ws a b d a 65536 65536) c d b c 4096 1048576) a b d a 256 16777216
  | _ => dq (dq (dq (dq ws a b d a 65536 65536) c d b c 4096 1048576) a b d a 256 16777216) c d b c 128 33554432
theorem rq4 (ws : List Int) (a b c d : Nat) : rq ws a b c d 4 = qrI ws a b c d := rfl
theorem W32.rq {ws : List Int} (h : W32 ws) (a b c d : Nat) : W32 (rq ws a b c d 4) := by
  have s := fun (l : List Int) (hl : W32 l) (i j k : Nat) => hl.set i (add32 (ix l j) (ix l k)) (add32_bd _ _).1 (add32_bd _ _).2
  have r := fun (l : List Int) (hl : W32 l) (i : Nat) (m q x : Int) => hl.set i (rotI m q x) (rotI_bd _ _ _).1 (rotI_bd _ _ _).2
  exact r _ (s _ (r _ (s _ (r _ (s _ (r _ (s _ h _ _ _) _ _ _ _) _ _ _) _ _ _ _) _ _ _) _ _ _ _) _ _ _) _ _ _ _
set_option maxRecDepth 100000 in
set_option maxHeartbeats 4000000 in
theorem rquarter_calls (g c B : Nat) (ws : List Int) (a b cc d : Nat) (h32 : W32 ws) (ha : a < 16) (hb : b < 16) (hc : cc < 16) (hd : d < 16)
   (w : World) (hw : Own w B 24 .u64 g 16 c ws) :
    Calls Tryz.prog 88 #[.slice (some ⟨g, 0, none⟩) 16 c, .int .i64 a, .int .i64 b, .int .i64 cc, .int .i64 d] w
      fun e w' => ∃ g' cap', e = .returned (.slice (some ⟨g', 0, none⟩) 16 cap') ∧ Own w' w.heap.size 24 .u64 g' 16 cap' (qrI ws a b cc d) ∧ Below w.heap.size w w' := by
  have ia : (a : Int) < 16 := by omega
  have ib : (b : Int) < 16 := by omega
  have ic : (cc : Int) < 16 := by omega
  have id : (d : Int) < 16 := by omega
  have hgl := hw.lt.2
  have hll := hw.len
  have HLL := Lib.hid hll
  clear hll
  go_enter Tryz.func88, Tryz.ntmps88
  go_wp2_with (at_builtin; refine wpList_push rfl (.tmp 14) (.tmp 15) 170 rfl (B := w.heap.size) (xs := []) 8 Tryz.underlying170 (by kernel_rfl) rfl (Own.made (m := 0) rfl (Nat.le_refl _) (by decide) rfl rfl) ⟨g, 0, none⟩ 16 c ws rfl HLL.out (fun j hj => by rw [Addr.add_mid, Nat.zero_add]; exact (hw.alloc _).cell j (by rw [HLL.out] at hj; exact hj)) (by omega) (by omega) (by omega) ?_; intro gy cy w1 hy hgr hat)
  refine name_wp (fun W => Below w.heap.size w W ∧ Own W w.heap.size 24 .u64 gy 16 cy ws ∧ ∃ o, Whole W w1.heap.size 3 (rowI .i64 o) ∧ o = [16, 12, 8, 7]) ?_ ?_
  · have h1 : Below w.heap.size w w1 := ((Below.refl _ w).alloc (Nat.le_refl _) _).grown hgr (by simp) (fun k hk => by injection hk with hk; omega)
    exact ⟨h1.alloc h1.size _, by simpa using hy.alloc _, _, Whole.new rfl rfl, rfl⟩
  have hgy : gy < w1.heap.size := hy.lt.2
  have hyB : w.heap.size ≤ gy := hy.lt.1
  generalize w1.heap.size = gn at hgy ⊢
  clear hy hgr hat w1
  intro W1 ⟨hB1, hy1, o, ho1, ho⟩
  subst ho
  go_loopw [19] (fun i wr => ∃ k : Nat, k ≤ 4 ∧ i = .int .i64 k ∧ Own wr w.heap.size 24 .u64 gy 16 cy (rq ws a b cc d k) ∧ W1.grownBy wr (some gy) ∧ W32 (rq ws a b cc d k)) (fun i _ => 4 - (intOf i).toNat)
  case atStart => exact ⟨0, by omega, rfl, hy1, World.grownBy.refl _ _, h32⟩
  case round =>
    clear hy1
    obtain ⟨k, hk, rfl, hY, hO, h32k⟩ := hrel
    obtain ⟨wr0, rfl⟩ : ∃ wx : World, wx = wr := ⟨_, rfl⟩
    by_cases hlt : k < 4
    · have hor := ho1.only hO (ne_some (by omega))
      rcases (by omega : k = 0 ∨ k = 1 ∨ k = 2 ∨ k = 3) with rfl | rfl | rfl | rfl
      · rw [show ((0 : Nat) : Int) = 0 from rfl]
        obtain ⟨V0, hV0⟩ : ∃ V, V = rq ws a b cc d 0 := ⟨_, rfl⟩
        rw [← hV0] at hY h32k
        have HV0 := Lib.hid hV0; clear hV0
        have cn := hor.int 0 (by decide)
        rw [show ix [16, 12, 8, 7] 0 = 16 from rfl] at cn
        have cx := hY.cell a ha
        have cy' := hY.cell b hb
        have fx := hY.frozen a
        have bx := h32k a; have by' := h32k b
        obtain ⟨bx0, bx1⟩ := bx; obtain ⟨by0, by1⟩ := by'
        go_wp2_with fail
        go_region
        go_wp2_with fail
        obtain ⟨V1, hV1⟩ : ∃ V, V = V0.set a (add32 (ix V0 a) (ix V0 b)) := ⟨_, rfl⟩
        have hY1 := (hY.set a (add32 (ix V0 a) (ix V0 b))).drew
        have hO1 := only_drawn (only_trans hO (only_stored ⟨gy, a, none⟩ rfl (.int .u64 (add32 (ix V0 a) (ix V0 b)))))
        have h321 := h32k.set a (add32 (ix V0 a) (ix V0 b)) (add32_bd _ _).1 (add32_bd _ _).2
        rw [← hV1] at hY1 h321
        obtain ⟨W2, hW2⟩ : ∃ W, W = (wr0.setCell ⟨gy, a, none⟩ (.int .u64 (add32 (ix V0 a) (ix V0 b)))).drew := ⟨_, rfl⟩
        rw [← hW2] at hY1 hO1
        unfold add32 at hW2
        rw [← hW2]
        have HV1 := Lib.hid hV1
        clear hW2 hV1 cx cy' fx hY hO cn bx0 bx1 by0 by1 hor
        have cz := hY1.cell d hd
        have cu := hY1.cell a ha
        have fz := hY1.frozen d
        have ex := x64_eq (ix V1 d) (ix V1 a) (h321 _).1 (h321 _).2 (h321 _).1 (h321 _).2
        refine wp_region_still_tail 14 (by kernel_rfl) (by kernel_rfl) ?_
        simp only [List.take_succ_cons, List.take_zero, List.drop_succ_cons, List.drop_zero]
        change wpStill _ _ W2.drew _ _ _
        iterate 12 still_step
        still_call (left16 _ (x32_0 _ _) (x32_1 _ _) _)
        iterate 1 still_step
        refine wpStill_nil ?_
        change wpList _ _ _ _ _ W2.drew
        go_wp2_with fail
        go_roundw
        case rel =>
          have e : rq ws a b cc d 1 = V1.set d (rotI 65536 65536 (x32 (ix V1 d) (ix V1 a))) := by rw [HV1.out, HV0.out]; rfl
          exact ⟨1, by omega, by go_num, by rw [e]; exact hY1.drew.set d _, only_trans (only_drawn hO1) (only_stored _ rfl _), by rw [e]; exact h321.set _ _ (rotI_bd _ _ _).1 (rotI_bd _ _ _).2⟩
        case measure => simp [intOf]
      · rw [show ((1 : Nat) : Int) = 1 from rfl]
        obtain ⟨V0, hV0⟩ : ∃ V, V = rq ws a b cc d 1 := ⟨_, rfl⟩
        rw [← hV0] at hY h32k
        have HV0 := Lib.hid hV0; clear hV0
        have cn := hor.int 1 (by decide)
        rw [show ix [16, 12, 8, 7] 1 = 12 from rfl] at cn
        have cx := hY.cell cc hc
        have cy' := hY.cell d hd
        have fx := hY.frozen cc
        have bx := h32k cc; have by' := h32k d
        obtain ⟨bx0, bx1⟩ := bx; obtain ⟨by0, by1⟩ := by'
        go_wp2_with fail
        go_region
        go_wp2_with fail
        obtain ⟨V1, hV1⟩ : ∃ V, V = V0.set cc (add32 (ix V0 cc) (ix V0 d)) := ⟨_, rfl⟩
        have hY1 := (hY.set cc (add32 (ix V0 cc) (ix V0 d))).drew
        have hO1 := only_drawn (only_trans hO (only_stored ⟨gy, cc, none⟩ rfl (.int .u64 (add32 (ix V0 cc) (ix V0 d)))))
        have h321 := h32k.set cc (add32 (ix V0 cc) (ix V0 d)) (add32_bd _ _).1 (add32_bd _ _).2
        rw [← hV1] at hY1 h321
        obtain ⟨W2, hW2⟩ : ∃ W, W = (wr0.setCell ⟨gy, cc, none⟩ (.int .u64 (add32 (ix V0 cc) (ix V0 d)))).drew := ⟨_, rfl⟩
        rw [← hW2] at hY1 hO1
        unfold add32 at hW2
        rw [← hW2]
        have HV1 := Lib.hid hV1
        clear hW2 hV1 cx cy' fx hY hO cn bx0 bx1 by0 by1 hor
        have cz := hY1.cell b hb
        have cu := hY1.cell cc hc
        have fz := hY1.frozen b
        have ex := x64_eq (ix V1 b) (ix V1 cc) (h321 _).1 (h321 _).2 (h321 _).1 (h321 _).2
        refine wp_region_still_tail 14 (by kernel_rfl) (by kernel_rfl) ?_
        simp only [List.take_succ_cons, List.take_zero, List.drop_succ_cons, List.drop_zero]
        change wpStill _ _ W2.drew _ _ _
        iterate 12 still_step
        still_call (left12 _ (x32_0 _ _) (x32_1 _ _) _)
        iterate 1 still_step
        refine wpStill_nil ?_
        change wpList _ _ _ _ _ W2.drew
        go_wp2_with fail
        go_roundw
        case rel =>
          have e : rq ws a b cc d 2 = V1.set b (rotI 4096 1048576 (x32 (ix V1 b) (ix V1 cc))) := by rw [HV1.out, HV0.out]; rfl
          exact ⟨2, by omega, by go_num, by rw [e]; exact hY1.drew.set b _, only_trans (only_drawn hO1) (only_stored _ rfl _), by rw [e]; exact h321.set _ _ (rotI_bd _ _ _).1 (rotI_bd _ _ _).2⟩
        case measure => simp [intOf]
      · rw [show ((2 : Nat) : Int) = 2 from rfl]
        obtain ⟨V0, hV0⟩ : ∃ V, V = rq ws a b cc d 2 := ⟨_, rfl⟩
        rw [← hV0] at hY h32k
        have HV0 := Lib.hid hV0; clear hV0
        have cn := hor.int 2 (by decide)
        rw [show ix [16, 12, 8, 7] 2 = 8 from rfl] at cn
        have cx := hY.cell a ha
        have cy' := hY.cell b hb
        have fx := hY.frozen a
        have bx := h32k a; have by' := h32k b
        obtain ⟨bx0, bx1⟩ := bx; obtain ⟨by0, by1⟩ := by'
        go_wp2_with fail
        go_region
        go_wp2_with fail
        obtain ⟨V1, hV1⟩ : ∃ V, V = V0.set a (add32 (ix V0 a) (ix V0 b)) := ⟨_, rfl⟩
        have hY1 := (hY.set a (add32 (ix V0 a) (ix V0 b))).drew
        have hO1 := only_drawn (only_trans hO (only_stored ⟨gy, a, none⟩ rfl (.int .u64 (add32 (ix V0 a) (ix V0 b)))))
        have h321 := h32k.set a (add32 (ix V0 a) (ix V0 b)) (add32_bd _ _).1 (add32_bd _ _).2
        rw [← hV1] at hY1 h321
        obtain ⟨W2, hW2⟩ : ∃ W, W = (wr0.setCell ⟨gy, a, none⟩ (.int .u64 (add32 (ix V0 a) (ix V0 b)))).drew := ⟨_, rfl⟩
        rw [← hW2] at hY1 hO1
        unfold add32 at hW2
        rw [← hW2]
        have HV1 := Lib.hid hV1
        clear hW2 hV1 cx cy' fx hY hO cn bx0 bx1 by0 by1 hor
        have cz := hY1.cell d hd
        have cu := hY1.cell a ha
        have fz := hY1.frozen d
        have ex := x64_eq (ix V1 d) (ix V1 a) (h321 _).1 (h321 _).2 (h321 _).1 (h321 _).2
        refine wp_region_still_tail 14 (by kernel_rfl) (by kernel_rfl) ?_
        simp only [List.take_succ_cons, List.take_zero, List.drop_succ_cons, List.drop_zero]
        change wpStill _ _ W2.drew _ _ _
        iterate 12 still_step
        still_call (left8 _ (x32_0 _ _) (x32_1 _ _) _)
        iterate 1 still_step
        refine wpStill_nil ?_
        change wpList _ _ _ _ _ W2.drew
        go_wp2_with fail
        go_roundw
        case rel =>
          have e : rq ws a b cc d 3 = V1.set d (rotI 256 16777216 (x32 (ix V1 d) (ix V1 a))) := by rw [HV1.out, HV0.out]; rfl
          exact ⟨3, by omega, by go_num, by rw [e]; exact hY1.drew.set d _, only_trans (only_drawn hO1) (only_stored _ rfl _), by rw [e]; exact h321.set _ _ (rotI_bd _ _ _).1 (rotI_bd _ _ _).2⟩
        case measure => simp [intOf]
      · rw [show ((3 : Nat) : Int) = 3 from rfl]
        obtain ⟨V0, hV0⟩ : ∃ V, V = rq ws a b cc d 3 := ⟨_, rfl⟩
        rw [← hV0] at hY h32k
        have HV0 := Lib.hid hV0; clear hV0
        have cn := hor.int 3 (by decide)
        rw [show ix [16, 12, 8, 7] 3 = 7 from rfl] at cn
        have cx := hY.cell cc hc
        have cy' := hY.cell d hd
        have fx := hY.frozen cc
        have bx := h32k cc; have by' := h32k d
        obtain ⟨bx0, bx1⟩ := bx; obtain ⟨by0, by1⟩ := by'
        go_wp2_with fail
        go_region
        go_wp2_with fail
        obtain ⟨V1, hV1⟩ : ∃ V, V = V0.set cc (add32 (ix V0 cc) (ix V0 d)) := ⟨_, rfl⟩
        have hY1 := (hY.set cc (add32 (ix V0 cc) (ix V0 d))).drew
        have hO1 := only_drawn (only_trans hO (only_stored ⟨gy, cc, none⟩ rfl (.int .u64 (add32 (ix V0 cc) (ix V0 d)))))
        have h321 := h32k.set cc (add32 (ix V0 cc) (ix V0 d)) (add32_bd _ _).1 (add32_bd _ _).2
        rw [← hV1] at hY1 h321
        obtain ⟨W2, hW2⟩ : ∃ W, W = (wr0.setCell ⟨gy, cc, none⟩ (.int .u64 (add32 (ix V0 cc) (ix V0 d)))).drew := ⟨_, rfl⟩
        rw [← hW2] at hY1 hO1
        unfold add32 at hW2
        rw [← hW2]
        have HV1 := Lib.hid hV1
        clear hW2 hV1 cx cy' fx hY hO cn bx0 bx1 by0 by1 hor
        have cz := hY1.cell b hb
        have cu := hY1.cell cc hc
        have fz := hY1.frozen b
        have ex := x64_eq (ix V1 b) (ix V1 cc) (h321 _).1 (h321 _).2 (h321 _).1 (h321 _).2
        refine wp_region_still_tail 14 (by kernel_rfl) (by kernel_rfl) ?_
        simp only [List.take_succ_cons, List.take_zero, List.drop_succ_cons, List.drop_zero]
        change wpStill _ _ W2.drew _ _ _
        iterate 12 still_step
        still_call (left7 _ (x32_0 _ _) (x32_1 _ _) _)
        iterate 1 still_step
        refine wpStill_nil ?_
        change wpList _ _ _ _ _ W2.drew
        go_wp2_with fail
        go_roundw
        case rel =>
          have e : rq ws a b cc d 4 = V1.set b (rotI 128 33554432 (x32 (ix V1 b) (ix V1 cc))) := by rw [HV1.out, HV0.out]; rfl
          exact ⟨4, by omega, by go_num, by rw [e]; exact hY1.drew.set b _, only_trans (only_drawn hO1) (only_stored _ rfl _), by rw [e]; exact h321.set _ _ (rotI_bd _ _ _).1 (rotI_bd _ _ _).2⟩
        case measure => simp [intOf]
    · obtain rfl : k = 4 := by omega
      go_wp2_with fail
      go_ret
      exact ⟨gy, cy, rfl, hY, hB1.grown hO hB1.size (fun k hk => by injection hk with hk; omega)⟩
end Go.Proofs.YtfoljmpphbhobaaGreatDoor
namespace Go.Proofs.YtfoljmpphbhobaaGreatDoor
open Go.RowKit Go.Spk
set_option linter.unusedVariables false
def wordsI (ks : List Int) (n : Nat) : List Int := (List.range n).map (wordAt ks)
theorem wordsI_length (ks : List Int) (n : Nat) : (wordsI ks n).length = n := by simp [wordsI]
theorem wordsI_succ (ks : List Int) (n : Nat) : wordsI ks (n + 1) = wordsI ks n ++ [wordAt ks n] := by simp [wordsI, List.range_succ]
set_option maxRecDepth 100000 in
set_option maxHeartbeats 1000000 in
theorem words_calls (s : ByteArray) (n : Nat) (hn : s.size / 4 = n) (hs : s.size ≤ 1000000) (w : World) :
    Calls Tryz.prog 87 #[.string s] w fun e w' => ∃ g cap, e = .returned (.slice (some ⟨g, 0, none⟩) n cap) ∧
      Own w' w.heap.size 24 .u64 g n cap (wordsI (bI s) n) ∧ Below w.heap.size w w' := by
  have gb : ∀ (n : Nat) (h : n < s.size), ((s[n]'h).toNat : Int) = ix (bI s) n := fun n h => (ix_bI s n h).symm
  go_enter Tryz.func87, Tryz.ntmps87
  go_wp2_with fail
  go_loopw [3, 4] (fun v i wr => ∃ k g cap : Nat, 4 * k ≤ s.size ∧ i = .int .i64 (4 * (k : Int)) ∧ v = .slice (some ⟨g, 0, none⟩) k cap ∧ Own wr w.heap.size 24 .u64 g k cap (wordsI (bI s) k) ∧ Below w.heap.size w wr) (fun _ i _ => s.size - (intOf i).toNat)
  case atStart => exact ⟨0, w.heap.size, 0, by omega, rfl, rfl, Own.made rfl (Nat.le_refl _) (by decide) rfl rfl, (Below.refl _ w).alloc (Nat.le_refl _) _⟩
  case round =>
    obtain ⟨k, g, cap, hk, rfl, rfl, hO, hB⟩ := hrel
    by_cases hlt : 4 * k + 3 < s.size
    · have hb := U8s_bI s
      have b0 := hb (4 * k); have b1 := hb (4 * k + 1); have b2 := hb (4 * k + 2); have b3 := hb (4 * k + 3)
      obtain ⟨b00, b01⟩ := b0; obtain ⟨b10, b11⟩ := b1; obtain ⟨b20, b21⟩ := b2; obtain ⟨b30, b31⟩ := b3
      clear hb
      have hk12 : k + 1 ≤ 1000000000000 := by omega
      have i0 : (0 : Int) ≤ 4 * (k : Int) := by omega
      have i1 : 4 * (k : Int) + 3 < s.size := by omega
      have j0 : 4 * (k : Int) < s.size := by omega
      have j1 : 4 * (k : Int) + 1 < s.size := by omega
      have j2 : 4 * (k : Int) + 2 < s.size := by omega
      have l1 : (0 : Int) ≤ 4 * (k : Int) + 1 := by omega
      have l2 : (0 : Int) ≤ 4 * (k : Int) + 2 := by omega
      have l3 : (0 : Int) ≤ 4 * (k : Int) + 3 := by omega
      have n0 : (4 * (k : Int)).toNat = 4 * k := by omega
      have n1 : (4 * (k : Int) + 1).toNat = 4 * k + 1 := by omega
      have n2 : (4 * (k : Int) + 2).toNat = 4 * k + 2 := by omega
      have n3 : (4 * (k : Int) + 3).toNat = 4 * k + 3 := by omega
      have w1 : IntKind.i64.wrap (4 * (k : Int) + 1) = 4 * (k : Int) + 1 := IntWalk.i64_in _ (by omega)
      have w2 : IntKind.i64.wrap (4 * (k : Int) + 2) = 4 * (k : Int) + 2 := IntWalk.i64_in _ (by omega)
      have w3 : IntKind.i64.wrap (4 * (k : Int) + 3) = 4 * (k : Int) + 3 := IntWalk.i64_in _ (by omega)
      go_wp2_with fail
      refine wp_region_pure_tail 26 (by kernel_rfl) (by kernel_rfl) (fun _ _ d _ _ h => by cases d <;> exact h) ?_
      simp only [List.take_succ_cons, List.take_zero, List.drop_succ_cons, List.drop_zero]
      iterate 26 (go_big_quiet_step (fail))
      refine wpQuiet_nil ?_
      go_wp2_with (at_builtin; refine wpList_push rfl (.tmp 13) (.tmp 39) 170 rfl 8 Tryz.underlying170 (by kernel_rfl) rfl ((hO.alloc _).drew) ⟨wr.heap.size, 0, none⟩ 1 1 [wordAt (bI s) k] rfl rfl (cell_one (by simp [wordAt, word4])) (by omega) (by omega) (by omega) ?_; intro g' cap' wz hO1 hgr hat)
      go_roundw
      case rel => exact ⟨k + 1, g', cap', by omega, by go_num, rfl, by rw [wordsI_succ]; exact hO1, (hB.drew.alloc hB.size _).grown hgr (by simp; exact Nat.le_succ_of_le hB.size) (fun q hq => by injection hq with hq; subst hq; exact hO.lt.1)⟩
      case measure => simp [intOf]; omega
    · have e : k = n := by omega
      have HE := Lib.hid e
      clear e
      go_wp2_with fail
      go_ret
      exact ⟨g, cap, by rw [← HE.out]; rfl, by rw [← HE.out]; exact hO, hB⟩
end Go.Proofs.YtfoljmpphbhobaaGreatDoor
namespace Go.Proofs.YtfoljmpphbhobaaGreatDoor
open Go.RowKit Go.Spk
set_option linter.unusedVariables false
def constS : ByteArray := ⟨#[101, 120, 112, 97, 110, 100, 32, 51, 50, 45, 98, 121, 116, 101, 32, 107]⟩
theorem const_words : wordsI (bI constS) 4 = beginI := by decide +kernel
theorem state_words (ks ns : List Int) (c : Int) : beginI ++ wordsI ks 8 ++ [c] ++ wordsI ns 3 = stateI ks c ns := rfl
def bytesT (X A : List Int) (n : Nat) : List Int := (List.range (4 * n)).map (byteAt X A)
theorem bytesT_length (X A : List Int) (n : Nat) : (bytesT X A n).length = 4 * n := by simp [bytesT]
theorem bytesT_succ (X A : List Int) (n : Nat) : bytesT X A (n + 1) = bytesT X A n ++ [byteAt X A (4 * n), byteAt X A (4 * n + 1), byteAt X A (4 * n + 2), byteAt X A (4 * n + 3)] := by
  simp [bytesT, Nat.mul_add, List.range_succ]
theorem bytes4 (X A : List Int) (i : Nat) : (ix X i + ix A i) % 256 = byteAt X A (4 * i) ∧ (ix X i + ix A i) % 4294967296 / 256 % 256 = byteAt X A (4 * i + 1) ∧
    (ix X i + ix A i) % 4294967296 / 65536 % 256 = byteAt X A (4 * i + 2) ∧ (ix X i + ix A i) % 4294967296 / 16777216 = byteAt X A (4 * i + 3) := by
  have h0 := byteAt_of X A i 0 (by omega)
  have h1 := byteAt_of X A i 1 (by omega)
  have h2 := byteAt_of X A i 2 (by omega)
  have h3 := byteAt_of X A i 3 (by omega)
  rw [Nat.add_zero] at h0
  rw [h0, h1, h2, h3]
  unfold add32
  refine ⟨?_, ?_, ?_, ?_⟩ <;> simp <;> omega
theorem W32_state (ks ns : List Int) (c : Int) (hk : U8s ks) (hn : U8s ns) (h0 : 0 ≤ c) (h1 : c < 4294967296) : W32 (stateI ks c ns) := by
  have wa : ∀ (l : List Int) (i : Nat), U8s l → 0 ≤ wordAt l i ∧ wordAt l i < 4294967296 := fun l i hl => by
    have a := hl (4 * i); have b := hl (4 * i + 1); have c := hl (4 * i + 2); have d := hl (4 * i + 3)
    unfold wordAt word4; omega
  have f : ∀ (l ws : List Int) (o n : Nat), U8s l → W32 ws → W32 (fillW l o ws n) := fun l ws o n hl hw => by
    induction n with
    | zero => exact hw
    | succ n ih => exact ih.set _ _ (wa _ _ hl).1 (wa _ _ hl).2
  refine f _ _ _ _ hn ((f _ _ _ _ hk ?_).set _ _ h0 h1)
  intro i
  by_cases h : i < 16
  · revert i; decide
  · unfold ix List.getD; rw [List.getElem?_eq_none (by simp [beginI]; omega)]; decide
set_option maxRecDepth 100000 in
set_option maxHeartbeats 4000000 in
theorem rblock_calls (key nonce : ByteArray) (ctr : Int) (hk : key.size = 32) (hn : nonce.size = 12) (h0 : 0 ≤ ctr) (h1 : ctr < 18446744073709551616) (w : World) :
    Calls Tryz.prog 70 #[.string key, .int .u64 ctr, .string nonce] w
      fun e w' => e = .returned (.string (strOfNums (blockI (bI key) (ctr % 4294967296) (bI nonce)))) ∧ Below w.heap.size w w' := by
  have HK := Lib.hid hk; have HN := Lib.hid hn; clear hk hn
  go_enter Tryz.func70, Tryz.ntmps70
  go_wp2_with fail
  refine (words_calls constS 4 (by decide) (by decide) _).mono ?_
  rintro e w1 ⟨g1, c1, rfl, hO1, hb1⟩
  rw [const_words] at hO1
  go_wp2_with fail
  refine (words_calls key 8 (by rw [HK.out]) (by rw [HK.out]; decide) _).mono ?_
  rintro e w2 ⟨g2, c2, rfl, hO2, hb2⟩
  have hO1' := hO1.below hb2 hO1.lt.2
  have hB2 : Below w.heap.size w w2 := hb1.trans (hb2.mono hb1.size)
  have hs2 := hO2.len
  have HS2 := Lib.hid hs2
  clear hs2
  go_wp2_with (first
    | (at_builtin
       refine wpList_push rfl (.tmp 13) (.tmp 15) 170 rfl 8 Tryz.underlying170 (by kernel_rfl) rfl hO1' ⟨g2, 0, none⟩ 8 c2 (wordsI (bI key) 8) rfl HS2.out (fun j hj => by rw [Addr.add_mid, Nat.zero_add]; exact hO2.cell j (by rw [HS2.out] at hj; exact hj)) (by omega) (by omega) (by omega) ?_
       intro g3 c3 w3 hO3 hg3 hat3
       have hB3 : Below w.heap.size w w3 := hB2.grown hg3 hB2.size (fun k hk => by injection hk with hk; subst hk; exact hO1.lt.1)
       clear hg3 hat3)
    | (at_builtin
       refine wpList_push rfl (.tmp 17) (.tmp 20) 170 rfl 8 Tryz.underlying170 (by kernel_rfl) rfl (hO3.alloc _) ⟨w3.heap.size, 0, none⟩ 1 1 [ctr % 4294967296] rfl rfl (cell_one (by simp)) (by omega) (by omega) (by omega) ?_
       intro g4 c4 w4 hO4 hg4 hat4
       have hB4 : Below w.heap.size w w4 := (hB3.alloc hB3.size _).grown hg4 (by simp; exact Nat.le_succ_of_le hB3.size) (fun k hk => by injection hk with hk; subst hk; exact hO3.lt.1)
       clear hg4 hat4))
  refine (words_calls nonce 3 (by rw [HN.out]) (by rw [HN.out]; decide) _).mono ?_
  rintro e w5 ⟨g5, c5, rfl, hO5, hb5⟩
  have hO4' := hO4.below hb5 hO4.lt.2
  have hB5 : Below w.heap.size w w5 := hB4.trans (hb5.mono hB4.size)
  have hs5 := hO5.len
  have HS5 := Lib.hid hs5
  clear hs5 hO1 hO1' hO2 hb1 hb2 hO3 hB2 hB3
  go_wp2_with (at_builtin; refine wpList_push rfl (.tmp 22) (.tmp 24) 170 rfl 8 Tryz.underlying170 (by kernel_rfl) rfl hO4' ⟨g5, 0, none⟩ 3 c5 (wordsI (bI nonce) 3) rfl HS5.out (fun j hj => by rw [Addr.add_mid, Nat.zero_add]; exact hO5.cell j (by rw [HS5.out] at hj; exact hj)) (by omega) (by omega) (by omega) ?_; intro gA cA w6 hO6 hg6 hat6)
  have hB6 : Below w.heap.size w w6 := hB5.grown hg6 hB5.size (fun k hk => by injection hk with hk; subst hk; exact hO4.lt.1)
  have hst : beginI ++ wordsI (bI key) 8 ++ [ctr % 4294967296] ++ wordsI (bI nonce) 3 = stateI (bI key) (ctr % 4294967296) (bI nonce) := state_words _ _ _
  rw [hst] at hO6
  have h32 := W32_state (bI key) (bI nonce) (ctr % 4294967296) (U8s_bI _) (U8s_bI _) (by omega) (by omega)
  have hlA := hO6.len
  obtain ⟨A, hA⟩ : ∃ A, A = stateI (bI key) (ctr % 4294967296) (bI nonce) := ⟨_, rfl⟩
  rw [← hA] at hO6 h32 hlA
  have HA := Lib.hid hA
  have HLA := Lib.hid hlA
  clear hst hA hlA hg6 hat6 hO5 hb5 hO4 hO4' hB5 hB4
  have hO6' : Own w6 w.heap.size 24 .u64 gA 16 cA A := hO6
  clear hO6
  go_loopw [8, 9] (fun x i wr => ∃ k gx cx : Nat, k ≤ 10 ∧ i = .int .i64 k ∧ x = .slice (some ⟨gx, 0, none⟩) 16 cx ∧ Own wr w.heap.size 24 .u64 gx 16 cx (rounds20 A k) ∧
      Own wr w.heap.size 24 .u64 gA 16 cA A ∧ Below w.heap.size w wr ∧ W32 (rounds20 A k)) (fun _ i _ => 10 - (intOf i).toNat)
  case atStart => exact ⟨0, gA, cA, by omega, rfl, rfl, hO6', hO6', hB6, h32⟩
  case round =>
    clear hO6' hB6
    obtain ⟨k, gx, cx, hk, rfl, rfl, hX0, hA0, hB0, q0⟩ := hrel
    by_cases hlt : k < 10
    · obtain ⟨v0, rfl⟩ : ∃ wx : World, wx = wr := ⟨_, rfl⟩
      obtain ⟨R, hR⟩ : ∃ R, R = rounds20 A k := ⟨_, rfl⟩
      rw [← hR] at hX0 q0
      have HR := Lib.hid hR
      clear hR
      go_wp2_with fail
      refine (rquarter_calls gx cx w.heap.size R 0 4 8 12 q0 (by decide) (by decide) (by decide) (by decide) _ hX0).mono ?_
      rintro e v1 ⟨gx1, cx1, rfl, hX', hb'⟩
      have hX1 : Own v1 w.heap.size 24 .u64 gx1 16 cx1 (qrs R 1) := hX'.less hB0.size
      have hA1 := hA0.below hb' hA0.lt.2
      have hB1 : Below w.heap.size w v1 := hB0.trans (hb'.mono hB0.size)
      have q1 : W32 (qrs R 1) := W32.rq q0 0 4 8 12
      clear hX' hb' hX0 hA0 hB0 q0
      go_wp2_with fail
      refine (rquarter_calls gx1 cx1 w.heap.size (qrs R 1) 1 5 9 13 q1 (by decide) (by decide) (by decide) (by decide) _ hX1).mono ?_
      rintro e v2 ⟨gx2, cx2, rfl, hX', hb'⟩
      have hX2 : Own v2 w.heap.size 24 .u64 gx2 16 cx2 (qrs R 2) := hX'.less hB1.size
      have hA2 := hA1.below hb' hA1.lt.2
      have hB2 : Below w.heap.size w v2 := hB1.trans (hb'.mono hB1.size)
      have q2 : W32 (qrs R 2) := W32.rq q1 1 5 9 13
      clear hX' hb' hX1 hA1 hB1 q1
      go_wp2_with fail
      refine (rquarter_calls gx2 cx2 w.heap.size (qrs R 2) 2 6 10 14 q2 (by decide) (by decide) (by decide) (by decide) _ hX2).mono ?_
      rintro e v3 ⟨gx3, cx3, rfl, hX', hb'⟩
      have hX3 : Own v3 w.heap.size 24 .u64 gx3 16 cx3 (qrs R 3) := hX'.less hB2.size
      have hA3 := hA2.below hb' hA2.lt.2
      have hB3 : Below w.heap.size w v3 := hB2.trans (hb'.mono hB2.size)
      have q3 : W32 (qrs R 3) := W32.rq q2 2 6 10 14
      clear hX' hb' hX2 hA2 hB2 q2
      go_wp2_with fail
      refine (rquarter_calls gx3 cx3 w.heap.size (qrs R 3) 3 7 11 15 q3 (by decide) (by decide) (by decide) (by decide) _ hX3).mono ?_
      rintro e v4 ⟨gx4, cx4, rfl, hX', hb'⟩
      have hX4 : Own v4 w.heap.size 24 .u64 gx4 16 cx4 (qrs R 4) := hX'.less hB3.size
      have hA4 := hA3.below hb' hA3.lt.2
      have hB4 : Below w.heap.size w v4 := hB3.trans (hb'.mono hB3.size)
      have q4 : W32 (qrs R 4) := W32.rq q3 3 7 11 15
      clear hX' hb' hX3 hA3 hB3 q3
      go_wp2_with fail
      refine (rquarter_calls gx4 cx4 w.heap.size (qrs R 4) 0 5 10 15 q4 (by decide) (by decide) (by decide) (by decide) _ hX4).mono ?_
      rintro e v5 ⟨gx5, cx5, rfl, hX', hb'⟩
      have hX5 : Own v5 w.heap.size 24 .u64 gx5 16 cx5 (qrs R 5) := hX'.less hB4.size
      have hA5 := hA4.below hb' hA4.lt.2
      have hB5 : Below w.heap.size w v5 := hB4.trans (hb'.mono hB4.size)
      have q5 : W32 (qrs R 5) := W32.rq q4 0 5 10 15
      clear hX' hb' hX4 hA4 hB4 q4
      go_wp2_with fail
      refine (rquarter_calls gx5 cx5 w.heap.size (qrs R 5) 1 6 11 12 q5 (by decide) (by decide) (by decide) (by decide) _ hX5).mono ?_
      rintro e v6 ⟨gx6, cx6, rfl, hX', hb'⟩
      have hX6 : Own v6 w.heap.size 24 .u64 gx6 16 cx6 (qrs R 6) := hX'.less hB5.size
      have hA6 := hA5.below hb' hA5.lt.2
      have hB6 : Below w.heap.size w v6 := hB5.trans (hb'.mono hB5.size)
      have q6 : W32 (qrs R 6) := W32.rq q5 1 6 11 12
      clear hX' hb' hX5 hA5 hB5 q5
      go_wp2_with fail
      refine (rquarter_calls gx6 cx6 w.heap.size (qrs R 6) 2 7 8 13 q6 (by decide) (by decide) (by decide) (by decide) _ hX6).mono ?_
      rintro e v7 ⟨gx7, cx7, rfl, hX', hb'⟩
      have hX7 : Own v7 w.heap.size 24 .u64 gx7 16 cx7 (qrs R 7) := hX'.less hB6.size
      have hA7 := hA6.below hb' hA6.lt.2
      have hB7 : Below w.heap.size w v7 := hB6.trans (hb'.mono hB6.size)
      have q7 : W32 (qrs R 7) := W32.rq q6 2 7 8 13
      clear hX' hb' hX6 hA6 hB6 q6
      go_wp2_with fail
      refine (rquarter_calls gx7 cx7 w.heap.size (qrs R 7) 3 4 9 14 q7 (by decide) (by decide) (by decide) (by decide) _ hX7).mono ?_
      rintro e v8 ⟨gx8, cx8, rfl, hX', hb'⟩
      have hX8 : Own v8 w.heap.size 24 .u64 gx8 16 cx8 (qrs R 8) := hX'.less hB7.size
      have hA8 := hA7.below hb' hA7.lt.2
      have hB8 : Below w.heap.size w v8 := hB7.trans (hb'.mono hB7.size)
      have q8 : W32 (qrs R 8) := W32.rq q7 3 4 9 14
      clear hX' hb' hX7 hA7 hB7 q7
      go_wp2_with fail
      go_roundw
      case rel => exact ⟨k + 1, gx8, cx8, by omega, by go_num, rfl, by rw [rounds20, ← HR.out]; exact hX8, hA8, hB8, by rw [rounds20, ← HR.out]; exact q8⟩
      case measure => simp [intOf]; omega
    · obtain rfl : k = 10 := by omega
      rw [show ((10 : Nat) : Int) = 10 from rfl]
      go_wp2_with fail
      obtain ⟨X, hX⟩ : ∃ R, R = rounds20 A 10 := ⟨_, rfl⟩
      rw [← hX] at hX0 q0
      have HX := Lib.hid hX
      clear hX
      have hgx := hX0.lt
      have hgA := hA0.lt
      have hM : Own (wr.alloc (.cells #[] 5)) w.heap.size 5 .u8 wr.heap.size (4 * 0) 0 (bytesT X A 0) := Own.made rfl hB0.size (by decide) rfl rfl
      have hX1 := hX0.alloc (.cells #[] 5)
      have hA1 := hA0.alloc (.cells #[] 5)
      have hB1 := hB0.alloc hB0.size (.cells #[] 5)
      clear hX0 hB0
      obtain ⟨hgx0, hgx1⟩ := hgx
      obtain ⟨hgA0, hgA1⟩ := hgA
      clear hA0
      have hnx : gx ≠ wr.heap.size := by omega
      have hnA : gA ≠ wr.heap.size := by omega
      go_loopw [10, 50] (fun v i wr => ∃ i' g c : Nat, i' ≤ 16 ∧ i = .int .i64 i' ∧ v = .slice (some ⟨g, 0, none⟩) (4 * i') c ∧ Own wr w.heap.size 5 .u8 g (4 * i') c (bytesT X A i') ∧
          Own wr w.heap.size 24 .u64 gx 16 cx X ∧ Own wr w.heap.size 24 .u64 gA 16 cA A ∧ Below w.heap.size w wr ∧ gx ≠ g ∧ gA ≠ g) (fun _ i _ => 16 - (intOf i).toNat)
      case atStart => exact ⟨0, wr.heap.size, 0, by omega, rfl, rfl, hM, hX1, hA1, hB1, hnx, hnA⟩
      case round =>
        clear hM hX1 hA1 hB1 hnx hnA hgx0 hgx1 hgA0 hgA1
        obtain ⟨i, g, c, hi, rfl, rfl, hO, hX1, hA1, hB1, hnx, hnA⟩ := hrel
        by_cases hlti : i < 16
        · have ii : (i : Int) < 16 := by omega
          have cX := hX1.cell i hlti
          have cA' := hA1.cell i hlti
          obtain ⟨bx0, bx1⟩ := q0 i
          obtain ⟨ba0, ba1⟩ := h32 i
          obtain ⟨e0, e1, e2, e3⟩ := bytes4 X A i
          have E0 := Lib.hid e0; have E1 := Lib.hid e1; have E2 := Lib.hid e2; have E3 := Lib.hid e3
          clear e0 e1 e2 e3
          obtain ⟨wo, rfl⟩ : ∃ wx : World, wx = wr := ⟨_, rfl⟩
          go_wp2_with fail
          go_quiet (fail)
          go_wp2_with (at_builtin; refine wpList_push rfl (.tmp 63) (.tmp 78) 33 rfl 1 Tryz.underlying33 (by kernel_rfl) rfl ((hO.drewN nq).alloc _) ⟨wo.heap.size, 0, none⟩ 4 4 [byteAt X A (4 * i), byteAt X A (4 * i + 1), byteAt X A (4 * i + 2), byteAt X A (4 * i + 3)] rfl rfl (news_whole (Whole.new (t := 5) rfl (by rw [← E0.out, ← E1.out, ← E2.out, ← E3.out]; rfl))) (by omega) (by omega) (by omega) ?_; intro g' c' w9 hO9 hg9 hat9)
          have hgo := hO.lt
          have hgx := hX1.lt
          have hgA := hA1.lt
          go_roundw
          case rel =>
            refine ⟨i + 1, g', c', by omega, by go_num, rfl, by rw [bytesT_succ]; exact hO9, ((hX1.drewN nq).alloc _).only hg9 (ne_some hnx), ((hA1.drewN nq).alloc _).only hg9 (ne_some hnA), ?_, ?_, ?_⟩
            · exact ((below_drawnN hB1 nq).alloc hB1.size _).grown hg9 (by simp; exact Nat.le_succ_of_le hB1.size) (fun q hq => by injection hq with hq; omega)
            · rcases hat9 with h | h
              · rw [h]; exact hnx
              · simp at h; omega
            · rcases hat9 with h | h
              · rw [h]; exact hnA
              · simp at h; omega
          case measure => simp [intOf]; omega
        · obtain rfl : i = 16 := by omega
          have hbt : bytesT X A 16 = blockI (bI key) (ctr % 4294967296) (bI nonce) := by
            rw [blockI_def, layB_map, ← HA.out, ← HX.out]; rfl
          have hl64 := bytesT_length X A 16
          have hcl : ∀ q, q < 64 → wr.cell? ⟨g, 0 + q, none⟩ = some (.int .u8 ((bytesT X A 16).getD q 0)) := fun q hq => by rw [Nat.zero_add]; exact hO.cell q hq
          have hrun := run_convert_bytes_arg (P := Tryz.prog) wr 33 5 Tryz.underlying33 Tryz.underlying5 g 0 64 c (bytesT X A 16) hl64 hcl 9 Tryz.underlying9
          rw [hbt] at hrun
          clear hbt hl64 hcl
          go_wp2
          go_ret
          exact ⟨rfl, hB1⟩
end Go.Proofs.YtfoljmpphbhobaaGreatDoor
namespace Go.Proofs.YtfoljmpphbhobaaGreatDoor
open Go.RowKit Go.Spk
set_option linter.unusedVariables false
def xorL (ks : List Int) (ctr : Int) (ns ws : List Int) (n : Nat) : List Int := (List.range n).map (fun n => x8 (ix ws n) (streamI ks ctr ns n))
theorem xorL_succ (ks ctr ns ws n) : xorL ks ctr ns ws (n + 1) = xorL ks ctr ns ws n ++ [x8 (ix ws n) (streamI ks ctr ns n)] := by simp [xorL, List.range_succ]
theorem xorL_length (ks ctr ns ws n) : (xorL ks ctr ns ws n).length = n := by simp [xorL]
/-- The tail of a round: out is appended the byte. -/
theorem layB_mem (X A : List Int) (n : Nat) : ∀ b ∈ layB X A n, 0 ≤ b ∧ b ≤ 255 := by
  induction n with
  | zero => intro b hb; simp [layB] at hb; subst hb; omega
  | succ n ih =>
    intro b hb
    unfold layB at hb
    rcases List.mem_or_eq_of_mem_set hb with h | h
    · exact ih b h
    · subst h; unfold byteAt; omega
theorem blockI_mem (ks : List Int) (c : Int) (ns : List Int) : ∀ b ∈ blockI ks c ns, 0 ≤ b ∧ b ≤ 255 := by
  rw [blockI_def]; exact layB_mem _ _ _
set_option maxRecDepth 100000 in
set_option maxHeartbeats 2000000 in
theorem rxor_calls (key nonce s : ByteArray) (ctr : Int) (hk : key.size = 32) (hn : nonce.size = 12) (h0 : 0 ≤ ctr) (h1 : ctr < 4294967296) (hs : s.size ≤ 100000000) (w : World) :
    Calls Tryz.prog 52 #[.string key, .int .u64 ctr, .string nonce, .string s] w
      fun e w' => e = .returned (.string (strOfNums (xorI (bI key) ctr (bI nonce) (bI s)))) ∧ Below w.heap.size w w' := by
  have HK := Lib.hid hk; have HN := Lib.hid hn; clear hk hn
  have gs : ∀ (n : Nat) (h : n < s.size), ((s[n]'h).toNat : Int) = ix (bI s) n := fun n h => (ix_bI s n h).symm
  have GS := Lib.hid gs
  clear gs
  go_enter Tryz.func52, Tryz.ntmps52
  go_wp2_with fail
  go_loopw [9, 10, 11] (fun v b i wr => ∃ (k g c : Nat) (bs : ByteArray), k ≤ s.size ∧ i = .int .i64 k ∧ b = .string bs ∧ v = .slice (some ⟨g, 0, none⟩) k c ∧
      Own wr w.heap.size 5 .u8 g k c (xorL (bI key) ctr (bI nonce) (bI s) k) ∧ Below w.heap.size w wr ∧ (k % 64 ≠ 0 → bI bs = blockI (bI key) ((ctr + (k / 64 : Nat)) % 4294967296) (bI nonce))) (fun _ _ i _ => s.size - (intOf i).toNat)
  case atStart => exact ⟨0, w.heap.size, 0, _, by omega, rfl, rfl, rfl, Own.made rfl (Nat.le_refl _) (by decide) rfl rfl, (Below.refl _ w).alloc (Nat.le_refl _) _, fun h => absurd rfl h⟩
  case round =>
    obtain ⟨k, g, c, bs, hk, rfl, rfl, rfl, hO, hB, hbs⟩ := hrel
    obtain ⟨wo, rfl⟩ : ∃ wx : World, wx = wr := ⟨_, rfl⟩
    have HBS := Lib.hid hbs
    clear hbs
    by_cases hlt : k < s.size
    · have ii : (k : Int) < s.size := by omega
      by_cases hm : k % 64 = 0
      · have hm' : (k : Int) % 64 = 0 := by omega
        go_wp2_with fail
        refine (rblock_calls key nonce _ HK.out HN.out (by omega) (by omega) _).mono ?_
        rintro e w2 ⟨rfl, hb2⟩
        have hmod : (ctr + (k : Int) / 64) % 4294967296 = (ctr + ((k / 64 : Nat) : Int)) % 4294967296 := by omega
        obtain ⟨bs2, hbs2⟩ : ∃ b, b = strOfNums (blockI (bI key) ((ctr + (k : Int) / 64) % 4294967296) (bI nonce)) := ⟨_, rfl⟩
        have hb3 : bI bs2 = blockI (bI key) ((ctr + ((k / 64 : Nat) : Int)) % 4294967296) (bI nonce) := by rw [hbs2, bI_str (blockI_mem _ _ _), hmod]
        rw [← hbs2]
        have HB2 := Lib.hid hb3
        clear hbs2 hb3 hmod
        have hO2 := hO.below hb2 hO.lt.2
        have hB2 : Below w.heap.size w w2 := hB.trans (hb2.mono hB.size)
        clear hO hB hb2
        go_wp2_with fail
        have hbz : bs2.size = 64 := by rw [← bI_length, HB2.out]; exact blockI_length _ _ _
        have gb : ∀ (n : Nat) (h : n < bs2.size), ((bs2[n]'h).toNat : Int) = ix (bI bs2) n := fun n h => (ix_bI bs2 n h).symm
        have gs := GS.out
        have ex := x8_eq
        have j1 : (k : Int) % 64 < bs2.size := by rw [hbz]; omega
        have j2 : (0 : Int) ≤ (k : Int) % 64 := by omega
        have j3 : ((k : Int) % 64).toNat = k % 64 := by omega
        have HBZ := Lib.hid hbz
        clear hbz
        refine wp_region_pure_tail 9 (by kernel_rfl) (by kernel_rfl) (fun _ _ d _ _ h => by cases d <;> exact h) ?_
        simp only [List.take_succ_cons, List.take_zero, List.drop_succ_cons, List.drop_zero]
        iterate 9 (go_big_quiet_step (fail))
        refine wpQuiet_nil ?_
        clear gs gb ex
        have hbe : x8 (ix (bI s) k) (ix (bI bs2) (k % 64)) = x8 (ix (bI s) k) (streamI (bI key) ctr (bI nonce) k) := by unfold streamI; rw [← HB2.out]
        have HBE := Lib.hid hbe
        clear hbe
        go_wp2_with (at_builtin; refine wpList_push rfl (.tmp 30) (.tmp 39) 33 rfl 1 Tryz.underlying33 (by kernel_rfl) rfl ((hO2.alloc _).drew) ⟨w2.heap.size, 0, none⟩ 1 1 [x8 (ix (bI s) k) (streamI (bI key) ctr (bI nonce) k)] rfl rfl (cell_one (by rw [← HBE.out]; first | (simp; done) | (simp; rw [hm]))) (by omega) (by omega) (by omega) ?_; intro g' c' w9 hO9 hg9 hat9)
        go_roundw
        case rel =>
          exact ⟨k + 1, g', c', bs2, by omega, by go_num, rfl, rfl, by rw [xorL_succ]; exact hO9, (hB2.drew.alloc hB2.size _).grown hg9 (by simp; exact Nat.le_succ_of_le hB2.size) (fun q hq => by injection hq with hq; subst hq; exact hO2.lt.1), fun hne => by rw [HB2.out]; congr 2; omega⟩
        case measure => simp [intOf]; omega
      · have hm' : (k : Int) % 64 ≠ 0 := by omega
        have hm2 : ((k : Int) % 64 == 0) = false := by simpa using hm'
        obtain ⟨bs2, rfl⟩ : ∃ b, b = bs := ⟨_, rfl⟩
        have HB2 := Lib.hid (HBS.out hm)
        go_wp2_with fail
        have hbz : bs2.size = 64 := by rw [← bI_length, HB2.out]; exact blockI_length _ _ _
        have gb : ∀ (n : Nat) (h : n < bs2.size), ((bs2[n]'h).toNat : Int) = ix (bI bs2) n := fun n h => (ix_bI bs2 n h).symm
        have gs := GS.out
        have ex := x8_eq
        have j1 : (k : Int) % 64 < bs2.size := by rw [hbz]; omega
        have j2 : (0 : Int) ≤ (k : Int) % 64 := by omega
        have j3 : ((k : Int) % 64).toNat = k % 64 := by omega
        have HBZ := Lib.hid hbz
        clear hbz
        refine wp_region_pure_tail 9 (by kernel_rfl) (by kernel_rfl) (fun _ _ d _ _ h => by cases d <;> exact h) ?_
        simp only [List.take_succ_cons, List.take_zero, List.drop_succ_cons, List.drop_zero]
        iterate 9 (go_big_quiet_step (fail))
        refine wpQuiet_nil ?_
        clear gs gb ex
        have hbe : x8 (ix (bI s) k) (ix (bI bs2) (k % 64)) = x8 (ix (bI s) k) (streamI (bI key) ctr (bI nonce) k) := by unfold streamI; rw [← HB2.out]
        have HBE := Lib.hid hbe
        clear hbe
        go_wp2_with (at_builtin; refine wpList_push rfl (.tmp 30) (.tmp 39) 33 rfl 1 Tryz.underlying33 (by kernel_rfl) rfl ((hO.alloc _).drew) ⟨wo.heap.size, 0, none⟩ 1 1 [x8 (ix (bI s) k) (streamI (bI key) ctr (bI nonce) k)] rfl rfl (cell_one (by rw [← HBE.out]; first | (simp; done) | (simp; rw [hm]))) (by omega) (by omega) (by omega) ?_; intro g' c' w9 hO9 hg9 hat9)
        go_roundw
        case rel =>
          exact ⟨k + 1, g', c', bs2, by omega, by go_num, rfl, rfl, by rw [xorL_succ]; exact hO9, (hB.drew.alloc hB.size _).grown hg9 (by simp; exact Nat.le_succ_of_le hB.size) (fun q hq => by injection hq with hq; subst hq; exact hO.lt.1), fun hne => by rw [HB2.out]; congr 2; omega⟩
        case measure => simp [intOf]; omega
    · obtain rfl : k = s.size := by omega
      have hbt : xorL (bI key) ctr (bI nonce) (bI s) s.size = xorI (bI key) ctr (bI nonce) (bI s) := by rw [xorI_map, bI_length]; rfl
      rw [hbt] at hO
      have hl64 := hO.len
      have hcl : ∀ q, q < s.size → wo.cell? ⟨g, 0 + q, none⟩ = some (.int .u8 ((xorI (bI key) ctr (bI nonce) (bI s)).getD q 0)) := fun q hq => by rw [Nat.zero_add]; exact hO.cell q hq
      have hrun := run_convert_bytes_arg (P := Tryz.prog) wo 33 5 Tryz.underlying33 Tryz.underlying5 g 0 s.size c (xorI (bI key) ctr (bI nonce) (bI s)) hl64 hcl 9 Tryz.underlying9
      clear hbt hl64 hcl
      go_wp2
      go_ret
      exact ⟨rfl, hB⟩
end Go.Proofs.YtfoljmpphbhobaaGreatDoor
