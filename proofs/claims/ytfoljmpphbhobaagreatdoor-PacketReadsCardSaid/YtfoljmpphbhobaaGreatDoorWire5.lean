/- wire.In's num. -/
import Derived.Test.YtfoljmpphbhobaaGreatDoorWire4
namespace Go.Proofs.YtfoljmpphbhobaaGreatDoor
open Go.RowKit Go.Spk
set_option linter.unusedVariables false
def numT (ws : List Int) : Nat → Int
  | 0 => 0
  | k + 1 => ix ws k + 256 * numT ws k
theorem numT_bd (ws : List Int) (h : U8s ws) (k : Nat) : 0 ≤ numT ws k ∧ numT ws k < 256 ^ k := by
  induction k with
  | zero => exact ⟨Int.le_refl _, by show (0 : Int) < 1; decide⟩
  | succ k ih =>
    have hk := h k
    have e : (256 : Int) ^ (k + 1) = 256 * 256 ^ k := by rw [Int.pow_succ, Int.mul_comm]
    rw [numT, e]
    omega
theorem bys_reads {w : World} {g m : Nat} {t : TypeId} {xs zs : List Int} (h : Bys w g t m (xs ++ zs)) (n : Nat) (hn : xs.length = n) : ∀ q, q < n → w.cell? ⟨g, 0 + q, none⟩ = some (.int .u8 (xs.getD q 0)) := fun q hq => by
  rw [Nat.zero_add, h.cell q (by rw [List.length_append]; omega), ix_append_left _ _ _ (by omega)]
  rfl
set_option maxHeartbeats 2000000 in
set_option maxRecDepth 100000 in
theorem inNum_calls (g : Nat) (s : ByteArray) (m : Nat) (hm : m ≤ 4) (hs : m ≤ s.size) (B : Nat) (hB : B ≤ g) (w : World) (h : Whole w g 108 #[.string s, .nilIface]) :
    Calls Tryz.prog 54 #[.pointer (some ⟨g, 0, none⟩), .int .i64 m] w fun e w' => e = .returned (.int .u64 (numT (bI s) m)) ∧ Below B w w' := by
  have hin := h.inside
  go_enter Tryz.func54, Tryz.ntmps54
  go_wp2_with (go_at_call 75; refine (inRaw_calls g s m hs _ h).mono ?_)
  rintro e w1 ⟨rfl, rfl⟩
  have hb : Below B w (w.setCell ⟨g, 0, none⟩ (.string (s.extract m s.size))) := (Below.refl B w).setCell (p := ⟨g, 0, none⟩) hB _
  have hz : B ≤ (w.setCell ⟨g, 0, none⟩ (.string (s.extract m s.size))).heap.size := Nat.le_trans (Nat.le_trans hB (Nat.le_of_lt hin)) hb.size
  generalize w.setCell ⟨g, 0, none⟩ (.string (s.extract m s.size)) = W at hb hz ⊢
  have hTs : (s.extract 0 m).size = m := by simp; omega
  have hTb : ∀ k, k < m → ix (bI (s.extract 0 m)) k = ix (bI s) k := fun k hk => by
    have e : bI (s.extract 0 m) = (bI s).take m := by
      unfold bI
      rw [← List.map_take]
      congr 1
      simp
    rw [e]
    unfold ix
    simp [List.getD, hk]
  generalize s.extract 0 m = T at hTs hTb ⊢
  have HTB := Lib.hid hTb
  clear hTb
  have hcv := fun wx : World => run_bytes_of_string (P := Tryz.prog) wx 9 33 5 T Tryz.underlying9 Tryz.underlying33 Tryz.underlying5
  go_wp2_with fail
  clear hcv
  have hcap := grownCap_ge W m 0 5
  generalize grownCap W m 0 5 = c at hcap ⊢
  have hby := Bys.made (w := W) rfl T c 5
  have hb2 : Below B w ((W.alloc (.cells (bytesRow T c) 5 ((bytesRow T c).size, (bytesRow T c).size + 1))).drew) := below_drawnN (hb.alloc hz _) 1
  generalize W.heap.size = g2 at hby ⊢
  generalize (W.alloc (.cells (bytesRow T c) 5 ((bytesRow T c).size, (bytesRow T c).size + 1))).drew = W2 at hby hb2 ⊢
  have hc2 := bys_reads hby m (by rw [bI_length, hTs])
  have HC2 := Lib.hid hc2
  have HB2 := Lib.hid hb2
  clear hby hc2 hb2 hb hz hcap h
  go_loopw [5, 13] (fun x i wr => ∃ k : Nat, k ≤ m ∧ i = .int .i64 k ∧ x = .int .u64 (numT (bI s) k) ∧ wr = W2) (fun _ i _ => m - (intOf i).toNat)
  case atStart => exact ⟨0, by omega, rfl, rfl, rfl⟩
  case round =>
    obtain ⟨k, hk, rfl, rfl, rfl⟩ := hrel
    by_cases hlt : k < m
    · have ii : (k : Int) < m := by omega
      have hcell := HC2.out k hlt
      rw [Nat.zero_add, show (bI T).getD k 0 = ix (bI s) k from HTB.out k hlt] at hcell
      have hu := U8s_bI s k
      have hnb := numT_bd (bI s) (U8s_bI s) k
      have hp : (256 : Int) ^ k ≤ 16777216 := by rcases (by omega : k = 0 ∨ k = 1 ∨ k = 2 ∨ k = 3) with h | h | h | h <;> (rw [h]; decide)
      have hx1 : numT (bI s) k < 72057594037927936 := by omega
      have hor := u64_shl8_or (numT (bI s) k) (ix (bI s) k) hnb.1 hx1 hu.1 hu.2
      have hw : IntKind.u64.wrap (numT (bI s) k * 256) = numT (bI s) k * 256 := by
        have e : IntKind.u64.wrap (numT (bI s) k * 256) = (numT (bI s) k * 256) % 18446744073709551616 := by simp [IntKind.wrap, IntKind.bits, IntKind.signed]
        rw [e]; omega
      have hs : numT (bI s) (k + 1) = ix (bI s) k + 256 * numT (bI s) k := rfl
      have HS := Lib.hid hs
      clear hs hp
      go_wp2_with fail
      go_roundw
      case rel => exact ⟨k + 1, by omega, by go_num, by rw [HS.out], by first | rfl | trivial⟩
      case measure => simp [intOf]; omega
    · obtain rfl : k = m := by omega
      go_wp2_with fail
      go_ret
      exact ⟨rfl, HB2.out⟩
set_option maxHeartbeats 2000000 in
set_option maxRecDepth 100000 in
theorem inU32_calls (g : Nat) (s : ByteArray) (hs : 4 ≤ s.size) (B : Nat) (hB : B ≤ g) (w : World) (h : Whole w g 108 #[.string s, .nilIface]) :
    Calls Tryz.prog 34 #[.pointer (some ⟨g, 0, none⟩)] w fun e w' => e = .returned (.int .u32 (numT (bI s) 4)) ∧ Below B w w' := by
  have hb := numT_bd (bI s) (U8s_bI s) 4
  have h4 : (256 : Int) ^ 4 = 4294967296 := by decide
  have hw : IntKind.u32.wrap (numT (bI s) 4) = numT (bI s) 4 := by
    rw [IntKind.wrap_u32']; omega
  clear hb h4
  go_enter Tryz.func34, Tryz.ntmps34
  go_wp2_with (go_at_call 54; refine (inNum_calls g s 4 (by decide) hs B hB _ h).mono ?_)
  rintro e w1 ⟨rfl, hb1⟩
  go_wp2
  go_ret
  exact ⟨rfl, hb1⟩
end Go.Proofs.YtfoljmpphbhobaaGreatDoor
