/- The walks of math/bits.RotateLeft32 and of chacha's quarter round: what they compute, over integers. -/
import Derived.Test.YtfoljmpphbhobaaDoorProg
import Derived.Test.YtfoljmpphbhobaaDoorBase
import Derived.StillTailTactics
import Derived.BigRegion
import Derived.BigQuiet
import Derived.Outline
import Derived.Lib.Hide
import Derived.Laws.BitsAllLaws
namespace Go.Proofs.YtfoljmpphbhobaaDoor
open Go.RowKit Go.Spk
set_option linter.unusedVariables false
/-- A rotation of a 32-bit word: m is 2 to the count, q is 2 to what is left of 32. -/
def rotI (m q x : Int) : Int := bits BinOp.or IntKind.u32 (x * m % 4294967296) (x / q)
def x32 (a b : Int) : Int := bits .xor .u32 a b
def add32 (a b : Int) : Int := (a + b) % 4294967296
theorem x32_eq (a b : Int) : bits .xor .u32 a b = x32 a b := rfl
theorem bits_u32 (o : BinOp) (a b : Int) (h : o = .xor ∨ o = .or) : 0 ≤ bits o .u32 a b ∧ bits o .u32 a b < 4294967296 := by
  rcases h with rfl | rfl
  all_goals
    unfold bits
    rw [IntKind.wrap_u32']
    omega
theorem x32_0 (a b : Int) : 0 ≤ x32 a b := (bits_u32 .xor a b (.inl rfl)).1
theorem x32_1 (a b : Int) : x32 a b < 4294967296 := (bits_u32 .xor a b (.inl rfl)).2
theorem and16 : bits BinOp.and IntKind.u64 16 31 = 16 := by decide +kernel
theorem and12 : bits BinOp.and IntKind.u64 12 31 = 12 := by decide +kernel
theorem and8 : bits BinOp.and IntKind.u64 8 31 = 8 := by decide +kernel
theorem and7 : bits BinOp.and IntKind.u64 7 31 = 7 := by decide +kernel
theorem rot16 (x : Int) (h0 : 0 ≤ x) (h : x < 4294967296) (w : World) :
    Calls Tryd.prog 72 #[.int .u32 x, .int .i64 16] w fun e w' => e = .returned (.int .u32 (rotI 65536 65536 x)) ∧ w' = w := by
  have e1 := and16
  go_enter Tryd.func72, Tryd.ntmps72
  go_wp2
  go_ret
  exact ⟨rfl, rfl⟩
theorem rot12 (x : Int) (h0 : 0 ≤ x) (h : x < 4294967296) (w : World) :
    Calls Tryd.prog 72 #[.int .u32 x, .int .i64 12] w fun e w' => e = .returned (.int .u32 (rotI 4096 1048576 x)) ∧ w' = w := by
  have e1 := and12
  go_enter Tryd.func72, Tryd.ntmps72
  go_wp2
  go_ret
  exact ⟨rfl, rfl⟩
theorem rot8 (x : Int) (h0 : 0 ≤ x) (h : x < 4294967296) (w : World) :
    Calls Tryd.prog 72 #[.int .u32 x, .int .i64 8] w fun e w' => e = .returned (.int .u32 (rotI 256 16777216 x)) ∧ w' = w := by
  have e1 := and8
  go_enter Tryd.func72, Tryd.ntmps72
  go_wp2
  go_ret
  exact ⟨rfl, rfl⟩
theorem rot7 (x : Int) (h0 : 0 ≤ x) (h : x < 4294967296) (w : World) :
    Calls Tryd.prog 72 #[.int .u32 x, .int .i64 7] w fun e w' => e = .returned (.int .u32 (rotI 128 33554432 x)) ∧ w' = w := by
  have e1 := and7
  go_enter Tryd.func72, Tryd.ntmps72
  go_wp2
  go_ret
  exact ⟨rfl, rfl⟩

/-- The quarter round over a list of words. -/
def qrI (ws : List Int) (a b c d : Nat) : List Int :=
  let w1 := ws.set a (add32 (ix ws a) (ix ws b))
  let w2 := w1.set d (rotI 65536 65536 (x32 (ix w1 d) (ix w1 a)))
  let w3 := w2.set c (add32 (ix w2 c) (ix w2 d))
  let w4 := w3.set b (rotI 4096 1048576 (x32 (ix w3 b) (ix w3 c)))
  let w5 := w4.set a (add32 (ix w4 a) (ix w4 b))
  let w6 := w5.set d (rotI 256 16777216 (x32 (ix w5 d) (ix w5 a)))
  let w7 := w6.set c (add32 (ix w6 c) (ix w6 d))
  w7.set b (rotI 128 33554432 (x32 (ix w7 b) (ix w7 c)))

set_option maxRecDepth 100000 in
set_option maxHeartbeats 2000000 in
theorem quarter_calls (g : Nat) (ws : List Int) (a b c d : Nat) (hl : ws.length = 16) (ha : a < 16) (hb : b < 16) (hc : c < 16) (hd : d < 16)
   (w : World) (hw : Whole w g 76 (rowI .u32 ws)) :
    Calls Tryd.prog 37 #[.pointer (some ⟨g, 0, none⟩), .int .i64 a, .int .i64 b, .int .i64 c, .int .i64 d] w
      fun e w' => e = .returned (.tuple #[]) ∧ Upd w w' g 76 .u32 (qrI ws a b c d) := by
  have ex := x32_eq
  have U0 := Upd.start hw
  have L0 := Lib.hid hl
  have ia : (a : Int) < 16 := by omega
  have ib : (b : Int) < 16 := by omega
  have ic : (c : Int) < 16 := by omega
  have id : (d : Int) < 16 := by omega
  clear hl
  go_enter Tryd.func37, Tryd.ntmps37
  go_wp2
  have cb := U0.cell b (by rw [L0.out]; exact hb)
  have ca := U0.cell a (by rw [L0.out]; exact ha)
  have fa := U0.frozen a
  go_region
  go_wp2
  obtain ⟨W1, ws1, hW, hs, U1, hl⟩ := U0.step L0.out a (add32 (ix ws a) (ix ws b))
  unfold add32 at hW
  rw [← hW]
  have S1 := Lib.hid hs
  have L1 := Lib.hid hl
  clear hW hs hl ca cb fa
  have ca := U1.cell a (by rw [L1.out]; exact ha)
  have cd := U1.cell d (by rw [L1.out]; exact hd)
  have fd := U1.frozen d
  refine wp_region_still_tail 16 (by kernel_rfl) (by kernel_rfl) ?_
  simp only [List.take_succ_cons, List.take_zero, List.drop_succ_cons, List.drop_zero]
  change wpStill _ _ W1.drew _ _ _
  iterate 13 still_step
  still_call (rot16 _ (x32_0 _ _) (x32_1 _ _) _)
  iterate 2 still_step
  refine wpStill_nil ?_
  change wpList _ _ _ _ _ W1.drew
  go_wp2
  obtain ⟨W2, ws2, hW, hs, U2, hl⟩ := U1.step L1.out d (rotI 65536 65536 (x32 (ix ws1 d) (ix ws1 a)))
  rw [← hW]
  have S2 := Lib.hid hs
  have L2 := Lib.hid hl
  clear hW hs hl cd ca fd
  have cd := U2.cell d (by rw [L2.out]; exact hd)
  have cc := U2.cell c (by rw [L2.out]; exact hc)
  have fc := U2.frozen c
  go_region
  go_wp2
  obtain ⟨W3, ws3, hW, hs, U3, hl⟩ := U2.step L2.out c (add32 (ix ws2 c) (ix ws2 d))
  unfold add32 at hW
  rw [← hW]
  have S3 := Lib.hid hs
  have L3 := Lib.hid hl
  clear hW hs hl cc cd fc
  have cb := U3.cell b (by rw [L3.out]; exact hb)
  have cc := U3.cell c (by rw [L3.out]; exact hc)
  have fb := U3.frozen b
  refine wp_region_still_tail 16 (by kernel_rfl) (by kernel_rfl) ?_
  simp only [List.take_succ_cons, List.take_zero, List.drop_succ_cons, List.drop_zero]
  change wpStill _ _ W3.drew _ _ _
  iterate 13 still_step
  still_call (rot12 _ (x32_0 _ _) (x32_1 _ _) _)
  iterate 2 still_step
  refine wpStill_nil ?_
  change wpList _ _ _ _ _ W3.drew
  go_wp2
  obtain ⟨W4, ws4, hW, hs, U4, hl⟩ := U3.step L3.out b (rotI 4096 1048576 (x32 (ix ws3 b) (ix ws3 c)))
  rw [← hW]
  have S4 := Lib.hid hs
  have L4 := Lib.hid hl
  clear hW hs hl cb cc fb
  have cb := U4.cell b (by rw [L4.out]; exact hb)
  have ca := U4.cell a (by rw [L4.out]; exact ha)
  have fa := U4.frozen a
  go_region
  go_wp2
  obtain ⟨W5, ws5, hW, hs, U5, hl⟩ := U4.step L4.out a (add32 (ix ws4 a) (ix ws4 b))
  unfold add32 at hW
  rw [← hW]
  have S5 := Lib.hid hs
  have L5 := Lib.hid hl
  clear hW hs hl ca cb fa
  have ca := U5.cell a (by rw [L5.out]; exact ha)
  have cd := U5.cell d (by rw [L5.out]; exact hd)
  have fd := U5.frozen d
  refine wp_region_still_tail 16 (by kernel_rfl) (by kernel_rfl) ?_
  simp only [List.take_succ_cons, List.take_zero, List.drop_succ_cons, List.drop_zero]
  change wpStill _ _ W5.drew _ _ _
  iterate 13 still_step
  still_call (rot8 _ (x32_0 _ _) (x32_1 _ _) _)
  iterate 2 still_step
  refine wpStill_nil ?_
  change wpList _ _ _ _ _ W5.drew
  go_wp2
  obtain ⟨W6, ws6, hW, hs, U6, hl⟩ := U5.step L5.out d (rotI 256 16777216 (x32 (ix ws5 d) (ix ws5 a)))
  rw [← hW]
  have S6 := Lib.hid hs
  have L6 := Lib.hid hl
  clear hW hs hl cd ca fd
  have cd := U6.cell d (by rw [L6.out]; exact hd)
  have cc := U6.cell c (by rw [L6.out]; exact hc)
  have fc := U6.frozen c
  go_region
  go_wp2
  obtain ⟨W7, ws7, hW, hs, U7, hl⟩ := U6.step L6.out c (add32 (ix ws6 c) (ix ws6 d))
  unfold add32 at hW
  rw [← hW]
  have S7 := Lib.hid hs
  have L7 := Lib.hid hl
  clear hW hs hl cc cd fc
  have cb := U7.cell b (by rw [L7.out]; exact hb)
  have cc := U7.cell c (by rw [L7.out]; exact hc)
  have fb := U7.frozen b
  refine wp_region_still_tail 16 (by kernel_rfl) (by kernel_rfl) ?_
  simp only [List.take_succ_cons, List.take_zero, List.drop_succ_cons, List.drop_zero]
  change wpStill _ _ W7.drew _ _ _
  iterate 13 still_step
  still_call (rot7 _ (x32_0 _ _) (x32_1 _ _) _)
  iterate 2 still_step
  refine wpStill_nil ?_
  change wpList _ _ _ _ _ W7.drew
  go_wp2
  obtain ⟨W8, ws8, hW, hs, U8, hl⟩ := U7.step L7.out b (rotI 128 33554432 (x32 (ix ws7 b) (ix ws7 c)))
  rw [← hW]
  have S8 := Lib.hid hs
  have L8 := Lib.hid hl
  clear hW hs hl cb cc fb
  go_end0
  refine ⟨rfl, ?_⟩
  have e : ws8 = qrI ws a b c d := by
    rw [S8.out, S7.out, S6.out, S5.out, S4.out, S3.out, S2.out, S1.out]; rfl
  rw [← e]
  exact U8
end Go.Proofs.YtfoljmpphbhobaaDoor
