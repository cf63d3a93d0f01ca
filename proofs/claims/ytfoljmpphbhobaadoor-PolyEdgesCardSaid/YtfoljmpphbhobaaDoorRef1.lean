/- The walks of the reference's chacha: left, Quarter. -/
import Derived.Test.YtfoljmpphbhobaaDoorCha1
import Derived.Test.YtfoljmpphbhobaaDoorBase4
import Derived.LoopTactic
import Derived.Handy
namespace Go.Proofs.YtfoljmpphbhobaaDoor
open Go.RowKit Go.Spk
set_option linter.unusedVariables false
def leftI (x : Int) : Nat → Int
  | 0 => x
  | k + 1 => if 4294967296 ≤ leftI x k * 2 then leftI x k * 2 - 4294967296 + 1 else leftI x k * 2
theorem leftI_bd (x : Int) (h0 : 0 ≤ x) (h1 : x < 4294967296) (k : Nat) : 0 ≤ leftI x k ∧ leftI x k < 4294967296 := by
  induction k with
  | zero => exact ⟨h0, h1⟩
  | succ k ih => unfold leftI; split <;> omega
theorem leftI_1 (x : Int) (h0 : 0 ≤ x) (h1 : x < 4294967296) : leftI x 1 = x * 2 % 4294967296 + x / 2147483648 := by
  show (if 4294967296 ≤ x * 2 then x * 2 - 4294967296 + 1 else x * 2) = _
  split <;> omega
theorem leftI_2 (x : Int) (h0 : 0 ≤ x) (h1 : x < 4294967296) : leftI x 2 = x * 4 % 4294967296 + x / 1073741824 := by
  have h := leftI_1 x h0 h1
  show (if 4294967296 ≤ leftI x 1 * 2 then leftI x 1 * 2 - 4294967296 + 1 else leftI x 1 * 2) = _
  rw [h]
  split <;> omega
theorem leftI_3 (x : Int) (h0 : 0 ≤ x) (h1 : x < 4294967296) : leftI x 3 = x * 8 % 4294967296 + x / 536870912 := by
  have h := leftI_2 x h0 h1
  show (if 4294967296 ≤ leftI x 2 * 2 then leftI x 2 * 2 - 4294967296 + 1 else leftI x 2 * 2) = _
  rw [h]
  split <;> omega
theorem leftI_4 (x : Int) (h0 : 0 ≤ x) (h1 : x < 4294967296) : leftI x 4 = x * 16 % 4294967296 + x / 268435456 := by
  have h := leftI_3 x h0 h1
  show (if 4294967296 ≤ leftI x 3 * 2 then leftI x 3 * 2 - 4294967296 + 1 else leftI x 3 * 2) = _
  rw [h]
  split <;> omega
theorem leftI_5 (x : Int) (h0 : 0 ≤ x) (h1 : x < 4294967296) : leftI x 5 = x * 32 % 4294967296 + x / 134217728 := by
  have h := leftI_4 x h0 h1
  show (if 4294967296 ≤ leftI x 4 * 2 then leftI x 4 * 2 - 4294967296 + 1 else leftI x 4 * 2) = _
  rw [h]
  split <;> omega
theorem leftI_6 (x : Int) (h0 : 0 ≤ x) (h1 : x < 4294967296) : leftI x 6 = x * 64 % 4294967296 + x / 67108864 := by
  have h := leftI_5 x h0 h1
  show (if 4294967296 ≤ leftI x 5 * 2 then leftI x 5 * 2 - 4294967296 + 1 else leftI x 5 * 2) = _
  rw [h]
  split <;> omega
theorem leftI_7 (x : Int) (h0 : 0 ≤ x) (h1 : x < 4294967296) : leftI x 7 = x * 128 % 4294967296 + x / 33554432 := by
  have h := leftI_6 x h0 h1
  show (if 4294967296 ≤ leftI x 6 * 2 then leftI x 6 * 2 - 4294967296 + 1 else leftI x 6 * 2) = _
  rw [h]
  split <;> omega
theorem leftI_8 (x : Int) (h0 : 0 ≤ x) (h1 : x < 4294967296) : leftI x 8 = x * 256 % 4294967296 + x / 16777216 := by
  have h := leftI_7 x h0 h1
  show (if 4294967296 ≤ leftI x 7 * 2 then leftI x 7 * 2 - 4294967296 + 1 else leftI x 7 * 2) = _
  rw [h]
  split <;> omega
theorem leftI_9 (x : Int) (h0 : 0 ≤ x) (h1 : x < 4294967296) : leftI x 9 = x * 512 % 4294967296 + x / 8388608 := by
  have h := leftI_8 x h0 h1
  show (if 4294967296 ≤ leftI x 8 * 2 then leftI x 8 * 2 - 4294967296 + 1 else leftI x 8 * 2) = _
  rw [h]
  split <;> omega
theorem leftI_10 (x : Int) (h0 : 0 ≤ x) (h1 : x < 4294967296) : leftI x 10 = x * 1024 % 4294967296 + x / 4194304 := by
  have h := leftI_9 x h0 h1
  show (if 4294967296 ≤ leftI x 9 * 2 then leftI x 9 * 2 - 4294967296 + 1 else leftI x 9 * 2) = _
  rw [h]
  split <;> omega
theorem leftI_11 (x : Int) (h0 : 0 ≤ x) (h1 : x < 4294967296) : leftI x 11 = x * 2048 % 4294967296 + x / 2097152 := by
  have h := leftI_10 x h0 h1
  show (if 4294967296 ≤ leftI x 10 * 2 then leftI x 10 * 2 - 4294967296 + 1 else leftI x 10 * 2) = _
  rw [h]
  split <;> omega
theorem leftI_12 (x : Int) (h0 : 0 ≤ x) (h1 : x < 4294967296) : leftI x 12 = x * 4096 % 4294967296 + x / 1048576 := by
  have h := leftI_11 x h0 h1
  show (if 4294967296 ≤ leftI x 11 * 2 then leftI x 11 * 2 - 4294967296 + 1 else leftI x 11 * 2) = _
  rw [h]
  split <;> omega
theorem leftI_13 (x : Int) (h0 : 0 ≤ x) (h1 : x < 4294967296) : leftI x 13 = x * 8192 % 4294967296 + x / 524288 := by
  have h := leftI_12 x h0 h1
  show (if 4294967296 ≤ leftI x 12 * 2 then leftI x 12 * 2 - 4294967296 + 1 else leftI x 12 * 2) = _
  rw [h]
  split <;> omega
theorem leftI_14 (x : Int) (h0 : 0 ≤ x) (h1 : x < 4294967296) : leftI x 14 = x * 16384 % 4294967296 + x / 262144 := by
  have h := leftI_13 x h0 h1
  show (if 4294967296 ≤ leftI x 13 * 2 then leftI x 13 * 2 - 4294967296 + 1 else leftI x 13 * 2) = _
  rw [h]
  split <;> omega
theorem leftI_15 (x : Int) (h0 : 0 ≤ x) (h1 : x < 4294967296) : leftI x 15 = x * 32768 % 4294967296 + x / 131072 := by
  have h := leftI_14 x h0 h1
  show (if 4294967296 ≤ leftI x 14 * 2 then leftI x 14 * 2 - 4294967296 + 1 else leftI x 14 * 2) = _
  rw [h]
  split <;> omega
theorem leftI_16 (x : Int) (h0 : 0 ≤ x) (h1 : x < 4294967296) : leftI x 16 = x * 65536 % 4294967296 + x / 65536 := by
  have h := leftI_15 x h0 h1
  show (if 4294967296 ≤ leftI x 15 * 2 then leftI x 15 * 2 - 4294967296 + 1 else leftI x 15 * 2) = _
  rw [h]
  split <;> omega
theorem rotI_sum (i : Nat) (m q x : Int) (h : bits BinOp.or IntKind.u32 (x * m % 4294967296) (x / q) = x * m % 4294967296 + x / q) : rotI m q x = x * m % 4294967296 + x / q := h
theorem left16_eq (x : Int) (h0 : 0 ≤ x) (h1 : x < 4294967296) : leftI x 16 = rotI 65536 65536 x := by
  rw [leftI_16 x h0 h1]
  obtain ⟨y, rfl⟩ := Int.eq_ofNat_of_zero_le h0
  have e1 : (y : Int) * 65536 % 4294967296 = ((y * 65536 % 4294967296 : Nat) : Int) := by omega
  have e2 : (y : Int) / 65536 = ((y / 65536 : Nat) : Int) := by omega
  unfold rotI
  rw [e1, e2, u32_or_nat _ _ (by omega) (by omega), nat_join 16 _ _ (by omega) (by omega)]
  omega
theorem left12_eq (x : Int) (h0 : 0 ≤ x) (h1 : x < 4294967296) : leftI x 12 = rotI 4096 1048576 x := by
  rw [leftI_12 x h0 h1]
  obtain ⟨y, rfl⟩ := Int.eq_ofNat_of_zero_le h0
  have e1 : (y : Int) * 4096 % 4294967296 = ((y * 4096 % 4294967296 : Nat) : Int) := by omega
  have e2 : (y : Int) / 1048576 = ((y / 1048576 : Nat) : Int) := by omega
  unfold rotI
  rw [e1, e2, u32_or_nat _ _ (by omega) (by omega), nat_join 12 _ _ (by omega) (by omega)]
  omega
theorem left8_eq (x : Int) (h0 : 0 ≤ x) (h1 : x < 4294967296) : leftI x 8 = rotI 256 16777216 x := by
  rw [leftI_8 x h0 h1]
  obtain ⟨y, rfl⟩ := Int.eq_ofNat_of_zero_le h0
  have e1 : (y : Int) * 256 % 4294967296 = ((y * 256 % 4294967296 : Nat) : Int) := by omega
  have e2 : (y : Int) / 16777216 = ((y / 16777216 : Nat) : Int) := by omega
  unfold rotI
  rw [e1, e2, u32_or_nat _ _ (by omega) (by omega), nat_join 8 _ _ (by omega) (by omega)]
  omega
theorem left7_eq (x : Int) (h0 : 0 ≤ x) (h1 : x < 4294967296) : leftI x 7 = rotI 128 33554432 x := by
  rw [leftI_7 x h0 h1]
  obtain ⟨y, rfl⟩ := Int.eq_ofNat_of_zero_le h0
  have e1 : (y : Int) * 128 % 4294967296 = ((y * 128 % 4294967296 : Nat) : Int) := by omega
  have e2 : (y : Int) / 33554432 = ((y / 33554432 : Nat) : Int) := by omega
  unfold rotI
  rw [e1, e2, u32_or_nat _ _ (by omega) (by omega), nat_join 7 _ _ (by omega) (by omega)]
  omega
set_option maxHeartbeats 1000000 in
theorem left_calls (x : Int) (n : Nat) (h0 : 0 ≤ x) (h1 : x < 4294967296) (hn : n ≤ 64) (w : World) :
    Calls Tryd.prog 73 #[.int .u64 x, .int .i64 n] w fun e w' => e = .returned (.int .u64 (leftI x n)) ∧ w' = w := by
  go_enter Tryd.func73, Tryd.ntmps73
  go_wp2
  go_loop [0, 5] (fun y i => ∃ k : Nat, k ≤ n ∧ i = .int .i64 k ∧ y = .int .u64 (leftI x k)) (fun _ i => n - (intOf i).toNat)
  case atStart => exact ⟨0, by omega, rfl, rfl⟩
  case round =>
    obtain ⟨k, hk, rfl, rfl⟩ := hrel
    have hb := leftI_bd x h0 h1 k
    obtain ⟨b0, b1⟩ := hb
    by_cases hlt : k < n
    · have hst : leftI x (k + 1) = if 4294967296 ≤ leftI x k * 2 then leftI x k * 2 - 4294967296 + 1 else leftI x k * 2 := rfl
      have HS := Lib.hid hst
      clear hst
      by_cases hc : 4294967296 ≤ leftI x k * 2
      all_goals
        go_wp2
        go_round
        case rel => exact ⟨k + 1, by omega, by go_num, by rw [HS.out]; first | rw [if_pos hc] | rw [if_neg hc]⟩
        case measure => simp [intOf]; omega
    · obtain rfl : k = n := by omega
      go_wp2
      go_ret
      exact ⟨rfl, rfl⟩
theorem left16 (x : Int) (h0 : 0 ≤ x) (h1 : x < 4294967296) (w : World) :
    Calls Tryd.prog 73 #[.int .u64 x, .int .i64 16] w fun e w' => e = .returned (.int .u64 (rotI 65536 65536 x)) ∧ w' = w := by
  have h := left_calls x 16 h0 h1 (by omega) w
  rw [left16_eq x h0 h1] at h
  exact h
theorem left12 (x : Int) (h0 : 0 ≤ x) (h1 : x < 4294967296) (w : World) :
    Calls Tryd.prog 73 #[.int .u64 x, .int .i64 12] w fun e w' => e = .returned (.int .u64 (rotI 4096 1048576 x)) ∧ w' = w := by
  have h := left_calls x 12 h0 h1 (by omega) w
  rw [left12_eq x h0 h1] at h
  exact h
theorem left8 (x : Int) (h0 : 0 ≤ x) (h1 : x < 4294967296) (w : World) :
    Calls Tryd.prog 73 #[.int .u64 x, .int .i64 8] w fun e w' => e = .returned (.int .u64 (rotI 256 16777216 x)) ∧ w' = w := by
  have h := left_calls x 8 h0 h1 (by omega) w
  rw [left8_eq x h0 h1] at h
  exact h
theorem left7 (x : Int) (h0 : 0 ≤ x) (h1 : x < 4294967296) (w : World) :
    Calls Tryd.prog 73 #[.int .u64 x, .int .i64 7] w fun e w' => e = .returned (.int .u64 (rotI 128 33554432 x)) ∧ w' = w := by
  have h := left_calls x 7 h0 h1 (by omega) w
  rw [left7_eq x h0 h1] at h
  exact h
/-- All words are below 2^32. -/
def W32 (ws : List Int) : Prop := ∀ i, 0 ≤ ix ws i ∧ ix ws i < 4294967296
theorem W32.set {ws : List Int} (h : W32 ws) (i : Nat) (v : Int) (h0 : 0 ≤ v) (h1 : v < 4294967296) : W32 (ws.set i v) := by
  intro j
  by_cases hl : i < ws.length
  · rw [ix_set _ _ _ _ hl]; split
    · exact ⟨h0, h1⟩
    · exact h j
  · rw [List.set_eq_of_length_le (by omega)]; exact h j
theorem rotI_bd (m q x : Int) : 0 ≤ rotI m q x ∧ rotI m q x < 4294967296 := bits_u32 .or _ _ (.inr rfl)
theorem add32_bd (a b : Int) : 0 ≤ add32 a b ∧ add32 a b < 4294967296 := by unfold add32; omega
theorem x64_eq (a b : Int) (h0 : 0 ≤ a) (h1 : a < 4294967296) (h2 : 0 ≤ b) (h3 : b < 4294967296) : bits .xor .u64 a b = x32 a b := by
  obtain ⟨a, rfl⟩ := Int.eq_ofNat_of_zero_le h0
  obtain ⟨b, rfl⟩ := Int.eq_ofNat_of_zero_le h2
  unfold x32
  rw [u64_xor_nat _ _ (by omega) (by omega), u32_xor_nat _ _ (by omega) (by omega)]
/-- A double step of a quarter round: word x is added word y, word z is xored with word u and turned. -/
def dq (l : List Int) (x y z u : Nat) (m q : Int) : List Int :=
  let w1 := l.set x (add32 (ix l x) (ix l y)); w1.set z (rotI m q (x32 (ix w1 z) (ix w1 u)))
/-- n of the four double steps. -/
def rq (ws : List Int) (a b c d : Nat) (n : Nat) : List Int :=
  match n with
  | 0 => ws
  | 1 => dq ws a b d a 65536 65536
  | 2 => dq (dq ws a b d a 65536 65536) c d b c 4096 1048576
  | 3 => dq (dq (dq ws a b d a 65536 65536) c d b c 4096 1048576) a b d a 256 16777216
  | _ => dq (dq (dq (dq ws a b d a 65536 65536) c d b c 4096 1048576) a b d a 256 16777216) c d b c 128 33554432
theorem rq4 (ws : List Int) (a b c d : Nat) : rq ws a b c d 4 = qrI ws a b c d := rfl
theorem W32.rq {ws : List Int} (h : W32 ws) (a b c d : Nat) : W32 (rq ws a b c d 4) := by
  have s := fun (l : List Int) (hl : W32 l) (i j k : Nat) => hl.set i (add32 (ix l j) (ix l k)) (add32_bd _ _).1 (add32_bd _ _).2
  have r := fun (l : List Int) (hl : W32 l) (i : Nat) (m q x : Int) => hl.set i (rotI m q x) (rotI_bd _ _ _).1 (rotI_bd _ _ _).2
  exact r _ (s _ (r _ (s _ (r _ (s _ (r _ (s _ h _ _ _) _ _ _ _) _ _ _) _ _ _ _) _ _ _) _ _ _ _) _ _ _) _ _ _ _
set_option maxRecDepth 100000 in
set_option maxHeartbeats 4000000 in
theorem rquarter_calls (g c B : Nat) (ws : List Int) (a b cc d : Nat) (h32 : W32 ws) (ha : a < 16) (hb : b < 16) (hc : cc < 16) (hd : d < 16)
   (w : World) (hw : Own w B 30 .u64 g 16 c ws) :
    Calls Tryd.prog 39 #[.slice (some ⟨g, 0, none⟩) 16 c, .int .i64 a, .int .i64 b, .int .i64 cc, .int .i64 d] w
      fun e w' => ∃ g' cap', e = .returned (.slice (some ⟨g', 0, none⟩) 16 cap') ∧ Own w' w.heap.size 30 .u64 g' 16 cap' (qrI ws a b cc d) ∧ Below w.heap.size w w' := by
  have ia : (a : Int) < 16 := by omega
  have ib : (b : Int) < 16 := by omega
  have ic : (cc : Int) < 16 := by omega
  have id : (d : Int) < 16 := by omega
  have hgl := hw.lt.2
  have hll := hw.len
  have HLL := Lib.hid hll
  clear hll
  go_enter Tryd.func39, Tryd.ntmps39
  go_wp2_with (at_builtin; refine wpList_push rfl (.tmp 14) (.tmp 15) 83 rfl (B := w.heap.size) (xs := []) 8 Tryd.underlying83 (by kernel_rfl) rfl (Own.made (m := 0) rfl (Nat.le_refl _) (by decide) rfl rfl) ⟨g, 0, none⟩ 16 c ws rfl HLL.out (fun j hj => by rw [Addr.add_mid, Nat.zero_add]; exact (hw.alloc _).cell j (by rw [HLL.out] at hj; exact hj)) (by omega) (by omega) (by omega) ?_; intro gy cy w1 hy hgr hat)
  refine name_wp (fun W => Below w.heap.size w W ∧ Own W w.heap.size 30 .u64 gy 16 cy ws ∧ ∃ o, Whole W w1.heap.size 3 (rowI .i64 o) ∧ o = [16, 12, 8, 7]) ?_ ?_
  · have h1 : Below w.heap.size w w1 := ((Below.refl _ w).alloc (Nat.le_refl _) _).grown hgr (by simp) (fun k hk => by injection hk with hk; omega)
    exact ⟨h1.alloc h1.size _, by simpa using hy.alloc _, _, Whole.new rfl rfl, rfl⟩
  have hgy : gy < w1.heap.size := hy.lt.2
  have hyB : w.heap.size ≤ gy := hy.lt.1
  generalize w1.heap.size = gn at hgy ⊢
  clear hy hgr hat w1
  intro W1 ⟨hB1, hy1, o, ho1, ho⟩
  subst ho
  go_loopw [19] (fun i wr => ∃ k : Nat, k ≤ 4 ∧ i = .int .i64 k ∧ Own wr w.heap.size 30 .u64 gy 16 cy (rq ws a b cc d k) ∧ W1.grownBy wr (some gy) ∧ W32 (rq ws a b cc d k)) (fun i _ => 4 - (intOf i).toNat)
  case atStart => exact ⟨0, by omega, rfl, hy1, World.grownBy.refl _ _, h32⟩
  case round =>
    clear hy1
    obtain ⟨k, hk, rfl, hY, hO, h32k⟩ := hrel
    obtain ⟨wr0, rfl⟩ : ∃ wx : World, wx = wr := ⟨_, rfl⟩
    by_cases hlt : k < 4
    · have hor := ho1.only hO (ne_some (by omega))
      rcases (by omega : k = 0 ∨ k = 1 ∨ k = 2 ∨ k = 3) with rfl | rfl | rfl | rfl
      · rw [show ((0 : Nat) : Int) = 0 from rfl]
        obtain ⟨V0, hV0⟩ : ∃ V, V = rq ws a b cc d 0 := ⟨_, rfl⟩
        rw [← hV0] at hY h32k
        have HV0 := Lib.hid hV0; clear hV0
        have cn := hor.int 0 (by decide)
        rw [show ix [16, 12, 8, 7] 0 = 16 from rfl] at cn
        have cx := hY.cell a ha
        have cy' := hY.cell b hb
        have fx := hY.frozen a
        have bx := h32k a; have by' := h32k b
        obtain ⟨bx0, bx1⟩ := bx; obtain ⟨by0, by1⟩ := by'
        go_wp2_with fail
        go_region
        go_wp2_with fail
        obtain ⟨V1, hV1⟩ : ∃ V, V = V0.set a (add32 (ix V0 a) (ix V0 b)) := ⟨_, rfl⟩
        have hY1 := (hY.set a (add32 (ix V0 a) (ix V0 b))).drew
        have hO1 := only_drawn (only_trans hO (only_stored ⟨gy, a, none⟩ rfl (.int .u64 (add32 (ix V0 a) (ix V0 b)))))
        have h321 := h32k.set a (add32 (ix V0 a) (ix V0 b)) (add32_bd _ _).1 (add32_bd _ _).2
        rw [← hV1] at hY1 h321
        obtain ⟨W2, hW2⟩ : ∃ W, W = (wr0.setCell ⟨gy, a, none⟩ (.int .u64 (add32 (ix V0 a) (ix V0 b)))).drew := ⟨_, rfl⟩
        rw [← hW2] at hY1 hO1
        unfold add32 at hW2
        rw [← hW2]
        have HV1 := Lib.hid hV1
        clear hW2 hV1 cx cy' fx hY hO cn bx0 bx1 by0 by1 hor
        have cz := hY1.cell d hd
        have cu := hY1.cell a ha
        have fz := hY1.frozen d
        have ex := x64_eq (ix V1 d) (ix V1 a) (h321 _).1 (h321 _).2 (h321 _).1 (h321 _).2
        refine wp_region_still_tail 14 (by kernel_rfl) (by kernel_rfl) ?_
        simp only [List.take_succ_cons, List.take_zero, List.drop_succ_cons, List.drop_zero]
        change wpStill _ _ W2.drew _ _ _
        iterate 12 still_step
        still_call (left16 _ (x32_0 _ _) (x32_1 _ _) _)
        iterate 1 still_step
        refine wpStill_nil ?_
        change wpList _ _ _ _ _ W2.drew
        go_wp2_with fail
        go_roundw
        case rel =>
          have e : rq ws a b cc d 1 = V1.set d (rotI 65536 65536 (x32 (ix V1 d) (ix V1 a))) := by rw [HV1.out, HV0.out]; rfl
          exact ⟨1, by omega, by go_num, by rw [e]; exact hY1.drew.set d _, only_trans (only_drawn hO1) (only_stored _ rfl _), by rw [e]; exact h321.set _ _ (rotI_bd _ _ _).1 (rotI_bd _ _ _).2⟩
        case measure => simp [intOf]
      · rw [show ((1 : Nat) : Int) = 1 from rfl]
        obtain ⟨V0, hV0⟩ : ∃ V, V = rq ws a b cc d 1 := ⟨_, rfl⟩
        rw [← hV0] at hY h32k
        have HV0 := Lib.hid hV0; clear hV0
        have cn := hor.int 1 (by decide)
        rw [show ix [16, 12, 8, 7] 1 = 12 from rfl] at cn
        have cx := hY.cell cc hc
        have cy' := hY.cell d hd
        have fx := hY.frozen cc
        have bx := h32k cc; have by' := h32k d
        obtain ⟨bx0, bx1⟩ := bx; obtain ⟨by0, by1⟩ := by'
        go_wp2_with fail
        go_region
        go_wp2_with fail
        obtain ⟨V1, hV1⟩ : ∃ V, V = V0.set cc (add32 (ix V0 cc) (ix V0 d)) := ⟨_, rfl⟩
        have hY1 := (hY.set cc (add32 (ix V0 cc) (ix V0 d))).drew
        have hO1 := only_drawn (only_trans hO (only_stored ⟨gy, cc, none⟩ rfl (.int .u64 (add32 (ix V0 cc) (ix V0 d)))))
        have h321 := h32k.set cc (add32 (ix V0 cc) (ix V0 d)) (add32_bd _ _).1 (add32_bd _ _).2
        rw [← hV1] at hY1 h321
        obtain ⟨W2, hW2⟩ : ∃ W, W = (wr0.setCell ⟨gy, cc, none⟩ (.int .u64 (add32 (ix V0 cc) (ix V0 d)))).drew := ⟨_, rfl⟩
        rw [← hW2] at hY1 hO1
        unfold add32 at hW2
        rw [← hW2]
        have HV1 := Lib.hid hV1
        clear hW2 hV1 cx cy' fx hY hO cn bx0 bx1 by0 by1 hor
        have cz := hY1.cell b hb
        have cu := hY1.cell cc hc
        have fz := hY1.frozen b
        have ex := x64_eq (ix V1 b) (ix V1 cc) (h321 _).1 (h321 _).2 (h321 _).1 (h321 _).2
        refine wp_region_still_tail 14 (by kernel_rfl) (by kernel_rfl) ?_
        simp only [List.take_succ_cons, List.take_zero, List.drop_succ_cons, List.drop_zero]
        change wpStill _ _ W2.drew _ _ _
        iterate 12 still_step
        still_call (left12 _ (x32_0 _ _) (x32_1 _ _) _)
        iterate 1 still_step
        refine wpStill_nil ?_
        change wpList _ _ _ _ _ W2.drew
        go_wp2_with fail
        go_roundw
        case rel =>
          have e : rq ws a b cc d 2 = V1.set b (rotI 4096 1048576 (x32 (ix V1 b) (ix V1 cc))) := by rw [HV1.out, HV0.out]; rfl
          exact ⟨2, by omega, by go_num, by rw [e]; exact hY1.drew.set b _, only_trans (only_drawn hO1) (only_stored _ rfl _), by rw [e]; exact h321.set _ _ (rotI_bd _ _ _).1 (rotI_bd _ _ _).2⟩
        case measure => simp [intOf]
      · rw [show ((2 : Nat) : Int) = 2 from rfl]
        obtain ⟨V0, hV0⟩ : ∃ V, V = rq ws a b cc d 2 := ⟨_, rfl⟩
        rw [← hV0] at hY h32k
        have HV0 := Lib.hid hV0; clear hV0
        have cn := hor.int 2 (by decide)
        rw [show ix [16, 12, 8, 7] 2 = 8 from rfl] at cn
        have cx := hY.cell a ha
        have cy' := hY.cell b hb
        have fx := hY.frozen a
        have bx := h32k a; have by' := h32k b
        obtain ⟨bx0, bx1⟩ := bx; obtain ⟨by0, by1⟩ := by'
        go_wp2_with fail
        go_region
        go_wp2_with fail
        obtain ⟨V1, hV1⟩ : ∃ V, V = V0.set a (add32 (ix V0 a) (ix V0 b)) := ⟨_, rfl⟩
        have hY1 := (hY.set a (add32 (ix V0 a) (ix V0 b))).drew
        have hO1 := only_drawn (only_trans hO (only_stored ⟨gy, a, none⟩ rfl (.int .u64 (add32 (ix V0 a) (ix V0 b)))))
        have h321 := h32k.set a (add32 (ix V0 a) (ix V0 b)) (add32_bd _ _).1 (add32_bd _ _).2
        rw [← hV1] at hY1 h321
        obtain ⟨W2, hW2⟩ : ∃ W, W = (wr0.setCell ⟨gy, a, none⟩ (.int .u64 (add32 (ix V0 a) (ix V0 b)))).drew := ⟨_, rfl⟩
        rw [← hW2] at hY1 hO1
        unfold add32 at hW2
        rw [← hW2]
        have HV1 := Lib.hid hV1
        clear hW2 hV1 cx cy' fx hY hO cn bx0 bx1 by0 by1 hor
        have cz := hY1.cell d hd
        have cu := hY1.cell a ha
        have fz := hY1.frozen d
        have ex := x64_eq (ix V1 d) (ix V1 a) (h321 _).1 (h321 _).2 (h321 _).1 (h321 _).2
        refine wp_region_still_tail 14 (by kernel_rfl) (by kernel_rfl) ?_
        simp only [List.take_succ_cons, List.take_zero, List.drop_succ_cons, List.drop_zero]
        change wpStill _ _ W2.drew _ _ _
        iterate 12 still_step
        still_call (left8 _ (x32_0 _ _) (x32_1 _ _) _)
        iterate 1 still_step
        refine wpStill_nil ?_
        change wpList _ _ _ _ _ W2.drew
        go_wp2_with fail
        go_roundw
        case rel =>
          have e : rq ws a b cc d 3 = V1.set d (rotI 256 16777216 (x32 (ix V1 d) (ix V1 a))) := by rw [HV1.out, HV0.out]; rfl
          exact ⟨3, by omega, by go_num, by rw [e]; exact hY1.drew.set d _, only_trans (only_drawn hO1) (only_stored _ rfl _), by rw [e]; exact h321.set _ _ (rotI_bd _ _ _).1 (rotI_bd _ _ _).2⟩
        case measure => simp [intOf]
      · rw [show ((3 : Nat) : Int) = 3 from rfl]
        obtain ⟨V0, hV0⟩ : ∃ V, V = rq ws a b cc d 3 := ⟨_, rfl⟩
        rw [← hV0] at hY h32k
        have HV0 := Lib.hid hV0; clear hV0
        have cn := hor.int 3 (by decide)
        rw [show ix [16, 12, 8, 7] 3 = 7 from rfl] at cn
        have cx := hY.cell cc hc
        have cy' := hY.cell d hd
        have fx := hY.frozen cc
        have bx := h32k cc; have by' := h32k d
        obtain ⟨bx0, bx1⟩ := bx; obtain ⟨by0, by1⟩ := by'
        go_wp2_with fail
        go_region
        go_wp2_with fail
        obtain ⟨V1, hV1⟩ : ∃ V, V = V0.set cc (add32 (ix V0 cc) (ix V0 d)) := ⟨_, rfl⟩
        have hY1 := (hY.set cc (add32 (ix V0 cc) (ix V0 d))).drew
        have hO1 := only_drawn (only_trans hO (only_stored ⟨gy, cc, none⟩ rfl (.int .u64 (add32 (ix V0 cc) (ix V0 d)))))
        have h321 := h32k.set cc (add32 (ix V0 cc) (ix V0 d)) (add32_bd _ _).1 (add32_bd _ _).2
        rw [← hV1] at hY1 h321
        obtain ⟨W2, hW2⟩ : ∃ W, W = (wr0.setCell ⟨gy, cc, none⟩ (.int .u64 (add32 (ix V0 cc) (ix V0 d)))).drew := ⟨_, rfl⟩
        rw [← hW2] at hY1 hO1
        unfold add32 at hW2
        rw [← hW2]
        have HV1 := Lib.hid hV1
        clear hW2 hV1 cx cy' fx hY hO cn bx0 bx1 by0 by1 hor
        have cz := hY1.cell b hb
        have cu := hY1.cell cc hc
        have fz := hY1.frozen b
        have ex := x64_eq (ix V1 b) (ix V1 cc) (h321 _).1 (h321 _).2 (h321 _).1 (h321 _).2
        refine wp_region_still_tail 14 (by kernel_rfl) (by kernel_rfl) ?_
        simp only [List.take_succ_cons, List.take_zero, List.drop_succ_cons, List.drop_zero]
        change wpStill _ _ W2.drew _ _ _
        iterate 12 still_step
        still_call (left7 _ (x32_0 _ _) (x32_1 _ _) _)
        iterate 1 still_step
        refine wpStill_nil ?_
        change wpList _ _ _ _ _ W2.drew
        go_wp2_with fail
        go_roundw
        case rel =>
          have e : rq ws a b cc d 4 = V1.set b (rotI 128 33554432 (x32 (ix V1 b) (ix V1 cc))) := by rw [HV1.out, HV0.out]; rfl
          exact ⟨4, by omega, by go_num, by rw [e]; exact hY1.drew.set b _, only_trans (only_drawn hO1) (only_stored _ rfl _), by rw [e]; exact h321.set _ _ (rotI_bd _ _ _).1 (rotI_bd _ _ _).2⟩
        case measure => simp [intOf]
    · obtain rfl : k = 4 := by omega
      go_wp2_with fail
      go_ret
      exact ⟨gy, cy, rfl, hY, hB1.grown hO hB1.size (fun k hk => by injection hk with hk; omega)⟩
end Go.Proofs.YtfoljmpphbhobaaDoor
