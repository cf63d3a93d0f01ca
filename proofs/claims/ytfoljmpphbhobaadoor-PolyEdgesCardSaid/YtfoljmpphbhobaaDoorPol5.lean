/- The walks of poly's filled, count, mark, Seal. -/
import Derived.Test.YtfoljmpphbhobaaDoorPol4
import Derived.Test.YtfoljmpphbhobaaDoorCha4
namespace Go.Proofs.YtfoljmpphbhobaaDoor
open Go.RowKit Go.Spk
set_option linter.unusedVariables false
set_option maxRecDepth 100000 in
set_option maxHeartbeats 1000000 in
theorem pfilled_calls (s : ByteArray) (hs : s.size ≤ 10000000) (w : World) :
    Calls Tryd.prog 84 #[.string s] w fun e w' => e = .returned (.string (strOfNums (fillI (bI s)))) ∧ Below w.heap.size w w' := by
  obtain ⟨c, hc⟩ : ∃ c, c = padN s.size := ⟨_, rfl⟩
  have hcb : c ≤ 16 := by rw [hc]; unfold padN; omega
  have i1 : (16 - (s.size : Int) % 16) % 16 = c := by rw [hc]; unfold padN; omega
  obtain ⟨zs, hzs⟩ : ∃ zs, zs = (⟨(Lib.repeatL (ByteArray.mk #[0]).data.toList c).toArray⟩ : ByteArray) := ⟨_, rfl⟩
  have hzb : bI zs = List.replicate c 0 := by rw [hzs, repeat_zeros]
  have hzz : zs.size = c := by rw [← bI_length, hzb, List.length_replicate]
  have hcat : s ++ zs = strOfNums (fillI (bI s)) := by
    apply bI_ext
    rw [bI_cat, hzb, bI_str (fillI_mem _ (mem_of_U8s (U8s_bI s)))]
    unfold fillI
    rw [bI_length, hc]
  have hcs : s.size + zs.size ≤ 10000100 := by omega
  have HZS := Lib.hid hzs; have HCAT := Lib.hid hcat; have HCB := Lib.hid hcb
  clear hc hzs hzb hzz hcat hcb
  go_enter Tryd.func84, Tryd.ntmps84
  go_wp2_with fail
  refine (Tryd.strings_Repeat ⟨#[0]⟩ c w (by have := HCB.out; omega) (by have := HCB.out; show 1 * c ≤ _; omega)).mono ?_
  rw [← HZS.out]
  rintro e w1 ⟨rfl, hB⟩
  have HB := Lib.hid hB
  clear hB
  go_wp2_with fail
  go_ret
  exact ⟨by rw [← HCAT.out]; rfl, HB.out⟩
/-- The count laid byte by byte. -/
def cntN (n i : Nat) : List Int := bytesN n i ++ List.replicate (8 - i) 0
theorem cntN_length (n i : Nat) (h : i ≤ 8) : (cntN n i).length = 8 := by unfold cntN; rw [List.length_append, bytesN_length, List.length_replicate]; omega
theorem cntN_end (n : Nat) : cntN n 8 = bytesN n 8 := by unfold cntN; simp
theorem cntN_set (n i : Nat) (h : i < 8) : (cntN n i).set i ((n / 256 ^ i % 256 : Nat) : Int) = cntN n (i + 1) := by
  unfold cntN
  rw [List.set_append_right _ _ (by rw [bytesN_length]; exact Nat.le_refl _), bytesN_length, Nat.sub_self, show 8 - i = (8 - (i + 1)) + 1 by omega, List.replicate_succ, List.set_cons_zero, bytesN_succ, List.append_assoc]
  rfl
theorem byte_pow (n i : Nat) : n / 2 ^ (8 * i) % 256 = n / 256 ^ i % 256 := by
  rw [Nat.pow_mul]
set_option maxRecDepth 100000 in
set_option maxHeartbeats 1000000 in
theorem pcount_calls (n : Nat) (hn : n ≤ 10000000) (w : World) :
    Calls Tryd.prog 85 #[.int .i64 n] w fun e w' => e = .returned (.string (strOfNums (bytesN n 8))) ∧ Below w.heap.size w w' := by
  have hw : IntKind.u64.wrap (n : Int) = n := by rw [IntKind.wrap_u64]; omega
  go_enter Tryd.func85, Tryd.ntmps85
  go_wp2_with fail
  go_outline
  refine name_wp (fun W => Below w.heap.size w W ∧ Whole W w.heap.size 153 (rowI .u8 (List.replicate 8 0))) ⟨(Below.refl _ w).alloc (Nat.le_refl _) _, Whole.new rfl rfl⟩ ?_
  intro W1 ⟨hB1, ho1⟩
  have HB1 := Lib.hid hB1; have HO1 := Lib.hid ho1
  clear hB1 ho1
  go_loopw [5] (fun i wr => ∃ k : Nat, k ≤ 8 ∧ i = .int .i64 k ∧ Upd W1 wr w.heap.size 153 .u8 (cntN n k)) (fun i _ => 8 - (intOf i).toNat)
  case atStart => exact ⟨0, by omega, rfl, Upd.start HO1.out⟩
  case round =>
    obtain ⟨k, hk, rfl, U⟩ := hrel
    have HU := Lib.hid U; have HLL := Lib.hid (cntN_length n k hk)
    clear U
    by_cases h1 : k < 8
    · have i1 : (k : Int) < 8 := by omega
      have cO := HU.out.cell k (by rw [HLL.out]; exact h1)
      have fO := HU.out.frozen k
      have HST := Lib.hid (cntN_set n k h1)
      go_wp2_with fail
      go_roundw
      case rel => exact ⟨k + 1, by omega, by go_num, by rw [byte_cast, byte_pow, ← HST.out]; exact HU.out.set k _⟩
      case measure => simp [intOf]; omega
    · obtain rfl : k = 8 := by omega
      have ho := HU.out.blk
      rw [cntN_end] at ho
      have hB2 := HU.out.below HB1.out (Nat.le_refl _) HB1.out.size
      have hcl : ∀ q, q < 8 → wr.cell? ⟨w.heap.size, 0 + q, none⟩ = some (.int .u8 ((bytesN n 8).getD q 0)) := fun q hq => by
        rw [Nat.zero_add, ho.at_, rowI_get .u8 _ q (by rw [bytesN_length]; exact hq)]; rfl
      have hrun := run_convert_bytes_arg (P := Tryd.prog) wr 28 5 Tryd.underlying28 Tryd.underlying5 w.heap.size 0 8 8 (bytesN n 8) (bytesN_length _ _) hcl 9 Tryd.underlying9
      have HB2 := Lib.hid hB2
      clear hcl ho hB2
      go_wp2_with fail
      go_ret
      exact ⟨rfl, HB2.out⟩
end Go.Proofs.YtfoljmpphbhobaaDoor
