/- The walks of the reference's chacha: words, Block. -/
import Derived.Test.YtfoljmpphbhobaaDoorCha3
import Derived.Test.YtfoljmpphbhobaaDoorRef1
import Derived.Test.YtfoljmpphbhobaaDoorBase5
import Derived.Deep.RegionLaw
import Derived.Deep.RegionHeld3
namespace Go.Proofs.YtfoljmpphbhobaaDoor
open Go.RowKit Go.Spk
set_option linter.unusedVariables false
def wordsI (ks : List Int) (n : Nat) : List Int := (List.range n).map (wordAt ks)
theorem wordsI_length (ks : List Int) (n : Nat) : (wordsI ks n).length = n := by simp [wordsI]
theorem wordsI_succ (ks : List Int) (n : Nat) : wordsI ks (n + 1) = wordsI ks n ++ [wordAt ks n] := by simp [wordsI, List.range_succ]
set_option maxRecDepth 100000 in
set_option maxHeartbeats 1000000 in
theorem words_calls (s : ByteArray) (n : Nat) (hn : s.size / 4 = n) (hs : s.size ≤ 1000000) (w : World) :
    Calls Tryd.prog 38 #[.string s] w fun e w' => ∃ g cap, e = .returned (.slice (some ⟨g, 0, none⟩) n cap) ∧
      Own w' w.heap.size 30 .u64 g n cap (wordsI (bI s) n) ∧ Below w.heap.size w w' := by
  have gb : ∀ (n : Nat) (h : n < s.size), ((s[n]'h).toNat : Int) = ix (bI s) n := fun n h => (ix_bI s n h).symm
  go_enter Tryd.func38, Tryd.ntmps38
  go_wp2_with fail
  go_loopw [3, 4] (fun v i wr => ∃ k g cap : Nat, 4 * k ≤ s.size ∧ i = .int .i64 (4 * (k : Int)) ∧ v = .slice (some ⟨g, 0, none⟩) k cap ∧ Own wr w.heap.size 30 .u64 g k cap (wordsI (bI s) k) ∧ Below w.heap.size w wr) (fun _ i _ => s.size - (intOf i).toNat)
  case atStart => exact ⟨0, w.heap.size, 0, by omega, rfl, rfl, Own.made rfl (Nat.le_refl _) (by decide) rfl rfl, (Below.refl _ w).alloc (Nat.le_refl _) _⟩
  case round =>
    obtain ⟨k, g, cap, hk, rfl, rfl, hO, hB⟩ := hrel
    by_cases hlt : 4 * k + 3 < s.size
    · have hb := U8s_bI s
      have b0 := hb (4 * k); have b1 := hb (4 * k + 1); have b2 := hb (4 * k + 2); have b3 := hb (4 * k + 3)
      obtain ⟨b00, b01⟩ := b0; obtain ⟨b10, b11⟩ := b1; obtain ⟨b20, b21⟩ := b2; obtain ⟨b30, b31⟩ := b3
      clear hb
      have hk12 : k + 1 ≤ 1000000000000 := by omega
      have i0 : (0 : Int) ≤ 4 * (k : Int) := by omega
      have i1 : 4 * (k : Int) + 3 < s.size := by omega
      have j0 : 4 * (k : Int) < s.size := by omega
      have j1 : 4 * (k : Int) + 1 < s.size := by omega
      have j2 : 4 * (k : Int) + 2 < s.size := by omega
      have l1 : (0 : Int) ≤ 4 * (k : Int) + 1 := by omega
      have l2 : (0 : Int) ≤ 4 * (k : Int) + 2 := by omega
      have l3 : (0 : Int) ≤ 4 * (k : Int) + 3 := by omega
      have n0 : (4 * (k : Int)).toNat = 4 * k := by omega
      have n1 : (4 * (k : Int) + 1).toNat = 4 * k + 1 := by omega
      have n2 : (4 * (k : Int) + 2).toNat = 4 * k + 2 := by omega
      have n3 : (4 * (k : Int) + 3).toNat = 4 * k + 3 := by omega
      have w1 : IntKind.i64.wrap (4 * (k : Int) + 1) = 4 * (k : Int) + 1 := IntWalk.i64_in _ (by omega)
      have w2 : IntKind.i64.wrap (4 * (k : Int) + 2) = 4 * (k : Int) + 2 := IntWalk.i64_in _ (by omega)
      have w3 : IntKind.i64.wrap (4 * (k : Int) + 3) = 4 * (k : Int) + 3 := IntWalk.i64_in _ (by omega)
      go_wp2_with fail
      refine wp_region_pure_tail 26 (by kernel_rfl) (by kernel_rfl) (fun _ _ d _ _ h => by cases d <;> exact h) ?_
      simp only [List.take_succ_cons, List.take_zero, List.drop_succ_cons, List.drop_zero]
      iterate 26 (go_big_quiet_step (fail))
      refine wpQuiet_nil ?_
      go_wp2_with (at_builtin; refine wpList_push rfl (.tmp 13) (.tmp 39) 83 rfl 8 Tryd.underlying83 (by kernel_rfl) rfl ((hO.alloc _).drew) ⟨wr.heap.size, 0, none⟩ 1 1 [wordAt (bI s) k] rfl rfl (cell_one (by simp [wordAt, word4])) (by omega) (by omega) (by omega) ?_; intro g' cap' wz hO1 hgr hat)
      go_roundw
      case rel => exact ⟨k + 1, g', cap', by omega, by go_num, rfl, by rw [wordsI_succ]; exact hO1, (hB.drew.alloc hB.size _).grown hgr (by simp; exact Nat.le_succ_of_le hB.size) (fun q hq => by injection hq with hq; subst hq; exact hO.lt.1)⟩
      case measure => simp [intOf]; omega
    · have e : k = n := by omega
      have HE := Lib.hid e
      clear e
      go_wp2_with fail
      go_ret
      exact ⟨g, cap, by rw [← HE.out]; rfl, by rw [← HE.out]; exact hO, hB⟩
end Go.Proofs.YtfoljmpphbhobaaDoor
