/- The walk of speakeasylaw03.awake: it answers true. -/
import Derived.Test.YtfoljmpphbhobaaDoorRef4
import Derived.Test.YtfoljmpphbhobaaDoorCha4
import Derived.Test.YtfoljmpphbhobaaDoorHex
import Derived.Test.YtfoljmpphbhobaaDoorBase6
namespace Go.Proofs.YtfoljmpphbhobaaDoor
open Go.RowKit Go.Spk
set_option linter.unusedVariables false
/-- The key 0, 1, .., n-1, of 32 places. -/
def keyUp : Nat → List Int
  | 0 => List.replicate 32 0
  | n + 1 => (keyUp n).set n (n : Int)
theorem keyUp_length (n : Nat) : (keyUp n).length = 32 := by
  induction n with
  | zero => rfl
  | succ n ih => simp [keyUp, ih]
def nonceA : List Int := [0, 0, 0, 9, 0, 0, 0, 74, 0, 0, 0, 0]
theorem U8s_of {ws : List Int} (h : ws.all (fun b => decide (0 ≤ b ∧ b ≤ 255)) = true) : U8s ws := fun i => ix_bytes (by simpa using h) i
theorem awake_val : strOfNums (hexI (bI (strOfNums ((blockI (keyUp 32) 1 nonceA).take 16))) 16) = ByteArray.mk #[49, 48, 102, 49, 101, 55, 101, 52, 100, 49, 51, 98, 53, 57, 49, 53, 53, 48, 48, 102, 100, 100, 49, 102, 97, 51, 50, 48, 55, 49, 99, 52] := by
  decide +kernel
theorem sliced (w : World) (g : Nat) (t : TypeId) (Z : List Int) (h : Whole w g t (rowI .u8 Z)) (n : Nat) (hn : n ≤ Z.length) (hZ : n = ((Z.take n).length)) :
    ∀ q, q < n → w.cell? ⟨g, 0 + q, none⟩ = some (.int .u8 ((Z.take n).getD q 0)) := fun q hq => by
  rw [Nat.zero_add, h.at_, rowI_get .u8 Z q (by omega)]
  congr 2
  unfold ix
  simp [List.getD, hq]
set_option maxRecDepth 100000 in
set_option maxHeartbeats 1000000 in
theorem awake_calls (w : World)
   (t0 : w.rangeAt 0 0 (beginI.map (Value.int .u32))) (t1 : w.rangeAt 1 0 orderC) :
    Calls Tryd.prog 13 #[] w fun e w' => e = .returned (.bool true) ∧ Below w.heap.size w w' := by
  have T0 := Lib.hid t0; have T1 := Lib.hid t1; clear t0 t1
  go_enter Tryd.func13, Tryd.ntmps13
  go_wp2_with fail
  have h0 : Upd (w.alloc (Obj.cells (rowI IntKind.u8 (List.replicate 32 0)) 22)) (w.alloc (Obj.cells (rowI IntKind.u8 (List.replicate 32 0)) 22)) w.heap.size 22 .u8 (keyUp 0) := Upd.start (Whole.new rfl rfl)
  have b0 : Below w.heap.size w (w.alloc (Obj.cells (rowI IntKind.u8 (List.replicate 32 0)) 22)) := by go_grown
  have s0 : w.heap.size ≤ (w.alloc (Obj.cells (rowI IntKind.u8 (List.replicate 32 0)) 22)).heap.size := by simp
  obtain ⟨w1, hw1⟩ : ∃ w1, w1 = w.alloc (Obj.cells (rowI IntKind.u8 (List.replicate 32 0)) 22) := ⟨_, rfl⟩
  rw [← hw1] at h0 b0 s0
  go_loopw [4] (fun i wr => ∃ k : Nat, k ≤ 32 ∧ i = .int .i64 k ∧ Upd w1 wr w.heap.size 22 .u8 (keyUp k)) (fun i _ => 32 - (intOf i).toNat)
  case atStart => exact ⟨0, by omega, rfl, hw1 ▸ h0⟩
  case round =>
    obtain ⟨k, hk, rfl, U⟩ := hrel
    by_cases hlt : k < 32
    · have cO := U.cell k (by rw [keyUp_length]; exact hlt)
      have fO := U.frozen k
      go_wp2_with fail
      go_roundw
      case rel => exact ⟨k + 1, by omega, by go_num, U.set k _⟩
      case measure => simp [intOf]; omega
    · obtain rfl : k = 32 := by omega
      rw [show ((32 : Nat) : Int) = 32 from rfl]
      have hB := U.below b0 (Nat.le_refl _) s0
      have hb := U.blk
      clear h0 s0 b0
      go_wp2_with (refine wpList_load_row rfl 22 (.tmp 1) rfl _ rfl 22 (rowI .u8 (keyUp 32)) (0, 0) _ hb Tryd.underlying22 rfl (by kernel_rfl) ?_)
      refine (block_calls (keyUp 32) nonceA 1 (keyUp_length _) rfl (U8s_of (by decide +kernel)) (U8s_of (by decide +kernel)) _ (rangeAt_below T0.out hB) (rangeAt_below T1.out hB)).mono ?_
      rintro e w2 ⟨rfl, hB2⟩
      obtain ⟨Z, hZ⟩ : ∃ Z, Z = blockI (keyUp 32) 1 nonceA := ⟨_, rfl⟩
      have hZl : Z.length = 64 := by rw [hZ]; exact blockI_length _ _ _
      rw [← hZ]
      have HZ := Lib.hid hZ
      have hs3 : (Tryd.prog.info? 26).map (·.size) = some (rowI .u8 Z).size := by rw [rowI_size, hZl]; kernel_rfl
      have H3 := Lib.hid hs3; have HZL := Lib.hid hZl
      clear hs3 hZl hZ
      have hz2 := hB2.size
      have h1 : Below w.heap.size w w2 := hB.trans (hB2.mono hB.size)
      have HC := Lib.hid h1
      clear h1 hB hB2 hz2
      go_wp2_with (refine wpList_store_row rfl 26 (.tmp 3) (.tmp 14) rfl w2.heap.size (rowI .u8 Z) rfl rfl 26 _ (heap_alloc_new _ _) H3.out (by rw [rowI_size, HZL.out]; rfl) (rowI_one _ _) ?_
                   refine name_ops (fun W => Below w.heap.size w W ∧ Whole W w2.heap.size 26 (rowI .u8 Z)) ⟨(HC.out.alloc HC.out.size _).grown (only_row _ _ _) (by simp; exact Nat.le_succ_of_le HC.out.size) (fun k hk => by injection hk with hk; subst hk; exact HC.out.size), Whole.row (Whole.new (cs' := _) rfl rfl)⟩ ?_
                   intro W hFW
                   have hrun := run_convert_bytes_arg (P := Tryd.prog) W 28 5 Tryd.underlying28 Tryd.underlying5 w2.heap.size 0 16 64 (Z.take 16) (by rw [List.length_take, HZL.out]; rfl) (sliced W _ _ Z hFW.2 16 (by rw [HZL.out]; decide) (by rw [List.length_take, HZL.out]; rfl)) 9 Tryd.underlying9
                   have HFW := Lib.hid hFW
                   clear hFW)
      have hsz : (strOfNums (Z.take 16)).size = 16 := by simp [strOfNums, ByteArray.size, HZL.out]
      refine (hex_calls (strOfNums (Z.take 16)) (by omega) _).mono ?_
      rintro e w3 ⟨rfl, hB3⟩
      have hval : strOfNums (hexI (bI (strOfNums (Z.take 16))) (strOfNums (Z.take 16)).size) = ByteArray.mk #[49, 48, 102, 49, 101, 55, 101, 52, 100, 49, 51, 98, 53, 57, 49, 53, 53, 48, 48, 102, 100, 100, 49, 102, 97, 51, 50, 48, 55, 49, 99, 52] := by
        rw [hsz, HZ.out]; exact awake_val
      clear hrun
      rw [hval]
      clear hval
      go_wp2_with fail
      go_ret
      exact ⟨rfl, HFW.out.1.trans (hB3.mono HFW.out.1.size)⟩
end Go.Proofs.YtfoljmpphbhobaaDoor
