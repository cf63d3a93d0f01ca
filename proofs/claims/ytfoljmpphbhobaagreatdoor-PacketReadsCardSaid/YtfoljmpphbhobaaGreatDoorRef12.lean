/- The reference of packet: Pack. -/
import Derived.Test.YtfoljmpphbhobaaGreatDoorRef9
import Derived.Test.YtfoljmpphbhobaaGreatDoorPack3
namespace Go.Proofs.YtfoljmpphbhobaaGreatDoor
open Go.RowKit Go.Spk
set_option linter.unusedVariables false
theorem pad_more (b : Bool) (len pad : Nat) (h : pad ≤ padP b len) (hc : pad < 4 ∨ (aheadN b + 1 + len + pad) % 8 ≠ 0) : pad < padP b len := by
  unfold padP at *; omega
theorem pad_done (b : Bool) (len pad : Nat) (h : pad ≤ padP b len) (h1 : ¬ pad < 4) (h2 : (aheadN b + 1 + len + pad) % 8 = 0) : pad = padP b len := by
  unfold padP at *; omega
/-- A key as the reference takes it. -/
def keyS (b : Bool) (ks : List Int) : ByteArray := if b then strOfNums ks else ⟨#[]⟩
theorem zeros_mem (k : Nat) : ∀ z ∈ List.replicate k (0 : Int), 0 ≤ z ∧ z ≤ 255 := fun z hz => by rw [(List.mem_replicate.1 hz).2]; decide
theorem zeros_next (p : ByteArray) (k : Nat) : p ++ strOfNums (List.replicate k 0) ++ strOfNums [0] = p ++ strOfNums (List.replicate (k + 1) 0) := by
  apply bI_ext
  rw [bI_cat, bI_cat, bI_cat, bI_str (zeros_mem k), bI_str (zeros_mem (k + 1)), bI_str (by decide), List.append_assoc, ← List.replicate_succ']
theorem zeros_none (p : ByteArray) : p ++ strOfNums (List.replicate 0 0) = p := by
  apply bI_ext
  rw [bI_cat]
  exact List.append_nil _
theorem body_str (b : Bool) (p : ByteArray) : strOfNums [((padP b p.size : Nat) : Int)] ++ (p ++ strOfNums (List.replicate (padP b p.size) 0)) = strOfNums (bodyP b (bI p)) := by
  have hb := padP_bd b p.size
  apply bI_ext
  rw [bI_cat, bI_cat, bI_str (zeros_mem _), bI_str (bodyP_mem b _ (U8s_bI p)), bI_str (by intro z hz; rw [List.mem_singleton.1 hz]; omega)]
  unfold bodyP
  rw [bI_length, List.append_assoc]
set_option maxRecDepth 100000 in
set_option maxHeartbeats 4000000 in
theorem rpack_calls (b : Bool) (ks : List Int) (n : Nat) (p : ByteArray) (hk : ks.length = 32) (bk : U8s ks) (hp : p.size ≤ 1000) (hn : n ≤ 1000000000) (w : World) :
    Calls Tryz.prog 12 #[.string p, .string (keyS b ks), .int .i64 n] w fun e w' => e = .returned (.string (strOfNums (packI b ks n (bI p)))) ∧ Below w.heap.size w w' := by
  have HK := Lib.hid hk; have BK := Lib.hid bk; have HN := Lib.hid hn
  have hks : (strOfNums ks).size = 32 ∧ bI (strOfNums ks) = ks := ⟨by rw [str_size, hk], bI_str (mem_of_U8s bk)⟩
  obtain ⟨Y, hY⟩ : ∃ Y, Y = strOfNums (bodyP b (bI p)) := ⟨_, rfl⟩
  have hYs : Y.size = p.size + 1 + padP b p.size := by rw [hY, str_size, bodyP_length, bI_length]
  obtain ⟨Z, hZ⟩ : ∃ Z, Z = strOfNums (sizeP b p.size) := ⟨_, rfl⟩
  have hYm := bodyP_mem b _ (U8s_bI p)
  have hbd := padP_bd b p.size
  obtain ⟨X, hX⟩ : ∃ X, X = strOfNums (outP b ks n (bI p)) := ⟨_, rfl⟩
  have hfin : Z ++ X = strOfNums (packI b ks n (bI p)) := by rw [hZ, hX, ← str_cat]; unfold packI; rw [bI_length]
  have hXs : X.size ≤ 2000 := by rw [hX, str_size, outP_length, bI_length]; unfold tagN; split <;> omega
  have hZs : Z.size = 4 := by rw [hZ, str_size]; exact beT_length _ _ _
  rw [← hfin]
  have HY := Lib.hid hY; have HYS := Lib.hid hYs; have HZ := Lib.hid hZ; have HX := Lib.hid hX; have HXS := Lib.hid hXs; have HZS := Lib.hid hZs; have HBD := Lib.hid hbd; have HYM := Lib.hid hYm
  have HP := Lib.hid hp
  have hone := run_one
  have hos : (strOfNums [(0 : Int)]).size = 1 := str_size _
  have HOS := Lib.hid hos
  clear hk bk hn hY hYs hZ hX hfin hXs hZs hbd hYm hos
  cases b
  · have hke : (keyS false ks) = ⟨#[]⟩ := rfl
    rw [hke]
    clear hke
    go_enter Tryz.func12, Tryz.ntmps12
    go_wp2_with fail
    go_loopw [7, 8] (fun bd pd wr => ∃ k : Nat, k ≤ padP false p.size ∧ pd = .int .i64 k ∧ bd = .string (p ++ strOfNums (List.replicate k 0)) ∧ Below w.heap.size w wr) (fun _ pd _ => (12 - intOf pd).toNat)
    case atStart => exact ⟨0, by omega, rfl, by rw [zeros_none], Below.refl _ _⟩
    case round =>
      obtain ⟨k, hk, rfl, rfl, hb⟩ := hrel
      have HB := Lib.hid hb; have HKP := Lib.hid hk
      have hk11 : k ≤ 11 := by have := HBD.out; omega
      have hzk : (strOfNums (List.replicate k 0)).size = k := by rw [str_size, List.length_replicate]
      have hc1 : p.size + (strOfNums (List.replicate k 0)).size + (strOfNums [(0 : Int)]).size ≤ 9223372036854775807 := by rw [hzk, HOS.out]; omega
      have hc2 : (strOfNums [(k : Int)]).size + (p.size + (strOfNums (List.replicate k 0)).size) ≤ 9223372036854775807 := by rw [hzk, str_size]; simp; omega
      clear hb hk hzk
      by_cases h4 : k < 4 ∨ (aheadN false + 1 + p.size + k) % 8 ≠ 0
      · have HM := Lib.hid (pad_more false p.size k HKP.out h4)
        have hnx := zeros_next p k
        have HNX := Lib.hid hnx
        clear hnx
        rcases (show k < 4 ∨ (¬ k < 4 ∧ (aheadN false + 1 + p.size + k) % 8 ≠ 0) by omega) with h5 | ⟨h5, h6⟩
        · have i4 : (k : Int) < 4 := by omega
          clear h4
          go_wp2_with fail
          go_roundw
          case rel => exact ⟨k + 1, by have := HM.out; omega, by go_num, by rw [HNX.out], HB.out.alloc HB.out.size _⟩
          case measure => simp [intOf]; omega
        · have i4 : ¬ (k : Int) < 4 := by omega
          have i5 : (((5 : Int) + p.size + k) % 8 != 0) = true := by
            rw [bne_iff_ne]
            have e : aheadN false = 4 := rfl
            rw [e] at h6; omega
          clear h4 h6
          go_wp2_with fail
          go_roundw
          case rel => exact ⟨k + 1, by have := HM.out; omega, by go_num, by rw [HNX.out], HB.out.alloc HB.out.size _⟩
          case measure => simp [intOf]; omega
      · have hke : k = padP false p.size := pad_done false p.size k HKP.out (by omega) (by omega)
        have i4 : ¬ (k : Int) < 4 := by omega
        have i5 : (((5 : Int) + p.size + k) % 8 != 0) = false := by
          have e : aheadN false = 4 := rfl
          rw [e] at h4
          rw [bne_eq_false_iff_eq]; omega
        have i6 : (((5 : Int) + p.size + k) % 8 == 0) = true := by
          have e : aheadN false = 4 := rfl
          rw [e] at h4
          rw [beq_iff_eq]; omega
        have HBS := Lib.hid (show strOfNums [(k : Int)] ++ (p ++ strOfNums (List.replicate k 0)) = Y by rw [HY.out, hke]; exact body_str false p)
        have HKE := Lib.hid hke
        clear h4 hke
        have hw8 : IntKind.u8.wrap (k : Int) = (k : Int) := by rw [IntKind.wrap_u8']; omega
        have hbs := HBS.out
        have hys : Y.size = p.size + 1 + k := by rw [HYS.out, HKE.out]
        go_wp2_with fail
        rw [show (p.size : Int) + 1 + (k : Int) = ((p.size + 1 + k : Nat) : Int) from by omega]
        refine (rnum_calls (p.size + 1 + k) 4 (by omega) (by decide) (by decide) _).mono ?_
        rw [show strOfNums (beT (p.size + 1 + k) 4 4) = Z by rw [HZ.out, HKE.out]; rfl]
        rintro e W3 ⟨rfl, hb3⟩
        have HB3 := Lib.hid ((HB.out.alloc HB.out.size (.cells #[.int .u8 (k : Int)] 5)).trans (hb3.mono (by have := HB.out.size; simp; omega)))
        have hcat : Z.size + X.size ≤ 9223372036854775807 := by rw [HZS.out]; have := HXS.out; omega
        clear hb3 i4 i5 i6 hw8 hbs hc1 hc2
        obtain rfl : X = Y := by rw [HX.out, HY.out]; rfl
        go_wp2_with fail
        go_ret
        exact ⟨rfl, HB3.out⟩
  · have hke : (keyS true ks) = strOfNums ks := rfl
    rw [hke]
    obtain ⟨key, hkey⟩ : ∃ key, key = strOfNums ks := ⟨_, rfl⟩
    rw [← hkey] at hks ⊢
    have HKS := Lib.hid hks
    have hkn := str_ne (p := key) (by rw [hks.1]; decide)
    have hkn3 : key.toList.isEmpty = false := by simpa using hkn
    have hkn4 : (!key.toList.isEmpty) = true := by simpa using hkn
    clear hke hks hkey
    go_enter Tryz.func12, Tryz.ntmps12
    go_wp2_with fail
    go_loopw [7, 8] (fun bd pd wr => ∃ k : Nat, k ≤ padP true p.size ∧ pd = .int .i64 k ∧ bd = .string (p ++ strOfNums (List.replicate k 0)) ∧ Below w.heap.size w wr) (fun _ pd _ => (12 - intOf pd).toNat)
    case atStart => exact ⟨0, by omega, rfl, by rw [zeros_none], Below.refl _ _⟩
    case round =>
      obtain ⟨k, hk, rfl, rfl, hb⟩ := hrel
      have HB := Lib.hid hb; have HKP := Lib.hid hk
      have hk11 : k ≤ 11 := by have := HBD.out; omega
      have hzk : (strOfNums (List.replicate k 0)).size = k := by rw [str_size, List.length_replicate]
      have hc1 : p.size + (strOfNums (List.replicate k 0)).size + (strOfNums [(0 : Int)]).size ≤ 9223372036854775807 := by rw [hzk, HOS.out]; omega
      have hc2 : (strOfNums [(k : Int)]).size + (p.size + (strOfNums (List.replicate k 0)).size) ≤ 9223372036854775807 := by rw [hzk, str_size]; simp; omega
      clear hb hk hzk
      by_cases h4 : k < 4 ∨ (aheadN true + 1 + p.size + k) % 8 ≠ 0
      · have HM := Lib.hid (pad_more true p.size k HKP.out h4)
        have hnx := zeros_next p k
        have HNX := Lib.hid hnx
        clear hnx
        rcases (show k < 4 ∨ (¬ k < 4 ∧ (aheadN true + 1 + p.size + k) % 8 ≠ 0) by omega) with h5 | ⟨h5, h6⟩
        · have i4 : (k : Int) < 4 := by omega
          clear h4
          go_wp2_with fail
          go_roundw
          case rel => exact ⟨k + 1, by have := HM.out; omega, by go_num, by rw [HNX.out], HB.out.alloc HB.out.size _⟩
          case measure => simp [intOf]; omega
        · have i4 : ¬ (k : Int) < 4 := by omega
          have i5 : (((1 : Int) + p.size + k) % 8 != 0) = true := by
            rw [bne_iff_ne]
            have e : aheadN true = 0 := rfl
            rw [e] at h6; omega
          clear h4 h6
          go_wp2_with fail
          go_roundw
          case rel => exact ⟨k + 1, by have := HM.out; omega, by go_num, by rw [HNX.out], HB.out.alloc HB.out.size _⟩
          case measure => simp [intOf]; omega
      · have hke : k = padP true p.size := pad_done true p.size k HKP.out (by omega) (by omega)
        have i4 : ¬ (k : Int) < 4 := by omega
        have i5 : (((1 : Int) + p.size + k) % 8 != 0) = false := by
          have e : aheadN true = 0 := rfl
          rw [e] at h4
          rw [bne_eq_false_iff_eq]; omega
        have i6 : (((1 : Int) + p.size + k) % 8 == 0) = true := by
          have e : aheadN true = 0 := rfl
          rw [e] at h4
          rw [beq_iff_eq]; omega
        have HBS := Lib.hid (show strOfNums [(k : Int)] ++ (p ++ strOfNums (List.replicate k 0)) = Y by rw [HY.out, hke]; exact body_str true p)
        have HKE := Lib.hid hke
        clear h4 hke
        have hw8 : IntKind.u8.wrap (k : Int) = (k : Int) := by rw [IntKind.wrap_u8']; omega
        have hbs := HBS.out
        have hys : Y.size = p.size + 1 + k := by rw [HYS.out, HKE.out]
        go_wp2_with fail
        rw [show (p.size : Int) + 1 + (k : Int) = ((p.size + 1 + k : Nat) : Int) from by omega]
        refine (rnum_calls (p.size + 1 + k) 4 (by omega) (by decide) (by decide) _).mono ?_
        rw [show strOfNums (beT (p.size + 1 + k) 4 4) = Z by rw [HZ.out, HKE.out]; rfl]
        rintro e W3 ⟨rfl, hb3⟩
        have HB3 := Lib.hid ((HB.out.alloc HB.out.size (.cells #[.int .u8 (k : Int)] 5)).trans (hb3.mono (by have := HB.out.size; simp; omega)))
        have hcat : Z.size + X.size ≤ 9223372036854775807 := by rw [HZS.out]; have := HXS.out; omega
        clear hb3 i4 i5 i6 hw8 hbs hc1 hc2
        go_wp2_with fail
        refine (rnonce_calls n HN.out W3).mono ?_
        obtain ⟨N, hN⟩ : ∃ N, N = strOfNums (nonceN n) := ⟨_, rfl⟩
        have HNN := Lib.hid (show N.size = 12 ∧ bI N = nonceN n by
          rw [hN, str_size]
          exact ⟨by unfold nonceN; rw [List.length_append, beT_length, beT_length], bI_str (by
            intro z hz
            unfold nonceN at hz
            rcases List.mem_append.1 hz with h | h <;> exact beT_mem _ _ _ z h)⟩)
        rw [← hN]
        clear hN
        rintro e W4 ⟨rfl, hb4⟩
        have HB4 := Lib.hid (HB3.out.trans (hb4.mono HB3.out.size))
        clear hb4
        go_wp2_with fail
        refine (rseal_calls key N Y Z HKS.out.1 HNN.out.1 (by rw [hys]; omega) (by rw [HZS.out]; omega) W4).mono ?_
        rw [show strOfNums (sealI (bI key) (bI N) (bI Y) (bI Z)) = X by
          rw [HX.out, HKS.out.2, HNN.out.2, HY.out, HZ.out, bI_str HYM.out, show bI (strOfNums (sizeP true p.size)) = sizeP true p.size from bI_str (beT_mem _ _ _)]
          unfold outP
          rw [bI_length]; rfl]
        rintro e W5 ⟨rfl, hb5⟩
        have HB5 := Lib.hid (HB4.out.trans (hb5.mono HB4.out.size))
        clear hb5
        go_wp2_with fail
        go_ret
        exact ⟨rfl, HB5.out⟩
end Go.Proofs.YtfoljmpphbhobaaGreatDoor
