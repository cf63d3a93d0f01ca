/- The walk of LeaseBeats: it answers true. -/
import Derived.Test.YtlkgdnmfgcmldaaDoorLea21
import Derived.Laws.BitsLemmas
namespace Go.Proofs.YtlkgdnmfgcmldaaDoor
open Go.RowKit Go.Spk
set_option linter.unusedVariables false
theorem and_low (x : Int) (k : Nat) (hk : k < 65536) : ∃ m : Nat, m ≤ k ∧ bits .and .i64 x (k : Int) = (m : Int) := by
  refine ⟨(BitVec.ofInt 64 x).toNat &&& k, Nat.and_le_right, ?_⟩
  have h : (BitVec.ofInt 64 x).toNat &&& k ≤ k := Nat.and_le_right
  have hk2 : (BitVec.ofInt 64 (k : Int)).toNat = k := by
    rw [BitVec.ofInt_natCast, BitVec.toNat_ofNat]; exact Nat.mod_eq_of_lt (by omega)
  show IntKind.i64.wrap ((BitVec.ofInt 64 x &&& BitVec.ofInt 64 (k : Int)).toNat : Int) = _
  rw [BitVec.toNat_and, hk2, IntKind.wrap_i64]
  omega
def one7 (la : Int) : Lse := ⟨sT, sA, 7, 1, la⟩
theorem beats1 : takeM 1 1 0 [] sT sA 7 0 = ⟨[one7 0], 1, one7 0, -1, 0⟩ := by kernel_rfl
theorem over_yes {life tk la : Int} (h : life ≤ tk - la) : ([one7 la].filter (isOver life tk)) = [one7 la] ∧ ([one7 la].filter fun y => !isOver life tk y) = [] := by
  have : isOver life tk (one7 la) = true := by unfold isOver one7; simpa using h
  simp [this]
theorem over_no {life tk la : Int} (h : ¬ life ≤ tk - la) : ([one7 la].filter (isOver life tk)) = [] ∧ ([one7 la].filter fun y => !isOver life tk y) = [one7 la] := by
  have : isOver life tk (one7 la) = false := by unfold isOver one7; simpa using h
  simp [this]
theorem tickI_id {n : Int} (h0 : 0 ≤ n) (h1 : n ≤ 1099511627776) : tickI n = n := by unfold tickI; omega
theorem upd7 (la no : Int) (h : la ≤ no) : [one7 la].map (updL 7 no) = [one7 no] := by
  simp only [List.map_cons, List.map_nil, updL, one7, if_true]
  rw [Int.max_eq_right h]
theorem upd8 (la no : Int) : [one7 la].map (updL 8 no) = [one7 la] := by
  simp [updL, one7]
theorem own7 (la : Int) : ownN 7 [one7 la] = 1 ∧ ownN 8 [one7 la] = 0 ∧ ownN 7 [] = 0 := ⟨rfl, rfl, rfl⟩
theorem find7 : foundX [] sT sA = lse0 ∧ ∀ E, foundE E [] sT sA = errI E := ⟨rfl, fun E => rfl⟩
set_option maxRecDepth 100000 in
set_option maxHeartbeats 4000000 in
theorem beats_calls (life : Int) (A : Option Addr) (zs : List Int) (cap : Nat) (ticks : Int) (hl : zs.length ≤ maxLen) (E : Nat → Addr) (w : World) (hZ : Rd w A (zs.map (Value.int .i64))) (hE : Errs w E) :
    Calls Tryd.prog 3 #[.int .i64 life, .slice A zs.length cap, .int .i64 ticks] w fun e w' => e = .returned (.bool true) ∧ Below w.heap.size w w' := by
  have HE := Lib.hid hE; have HZ := Lib.hid hZ
  clear hE hZ
  have hl1 : sT.size ≤ maxLen := by show 1 ≤ _; unfold maxLen; omega
  have hl2 : sA.size ≤ maxLen := by show 1 ≤ _; unfold maxLen; omega
  have HS := Lib.hid (And.intro hl1 hl2)
  clear hl1 hl2
  unfold maxLen at hl
  have hlI : (zs.length : Int) ≤ 9223372036854775807 := by omega
  clear hl
  go_enter Tryd.func3, Tryd.ntmps3
  go_wp2_with fail
  refine (awake_calls E w HE.out).mono ?_
  rintro e W0 ⟨rfl, hb0⟩
  have H0 := Lib.hid hb0
  clear hb0
  go_wp2_with fail
  refine (h_new w 1 1 life W0 H0.out).mono ?_
  rintro e W1 ⟨g, b, rfl, h1, _, _, _⟩
  have H1 := Lib.hid h1
  clear h1
  go_wp2_with fail
  refine (h_take W1 H1.out E HE.out (by decide) (by simp) sT sA 7 0 HS.out.1 HS.out.2).mono ?_
  rintro e W2 ⟨rfl, h2, _⟩
  rw [show (max 0 (min (1 : Int) 64)) = 1 by decide, show (max 0 (min (1 : Int) 4096)) = 1 by decide, beats1] at h2
  rw [show (max 0 (min (1 : Int) 64)) = 1 by decide, show (max 0 (min (1 : Int) 4096)) = 1 by decide, beats1]
  have H2 := Lib.hid h2
  clear h2
  rw [show errV E (0 : Nat) = .nilIface from rfl]
  unfold lseV
  go_wp2_with fail
  obtain ⟨lf, hlf⟩ : ∃ lf, lf = max 1 (min life 1073741824) := ⟨_, rfl⟩
  rw [← hlf]
  have HL := Lib.hid (show 1 ≤ lf ∧ lf ≤ 1073741824 by omega)
  have H3 := Lib.hid (show Hold w W2 g b 1 1 lf 1 [one7 0] by rw [hlf]; exact H2.out)
  clear hlf
  go_loopw [11, 12, 13] (fun la no i wr => ∃ (k : Nat) (lv nv : Int), k ≤ 40 ∧ i = .int .i64 k ∧ la = .int .i64 lv ∧ no = .int .i64 nv ∧ 0 ≤ lv ∧ lv ≤ nv ∧ nv ≤ 15 * k ∧ Hold w wr g b 1 1 lf 1 [one7 lv]) (fun _ _ i _ => 40 - (intOf i).toNat)
  case atStart => exact ⟨0, 0, 0, by omega, rfl, rfl, rfl, by omega, by omega, by omega, H3.out.quiet ((Below.refl _ _).alloc (Nat.le_refl _) _)⟩
  case round =>
    obtain ⟨k, lv, nv, hk, rfl, rfl, rfl, hlv, hln, hnv, hh⟩ := hrel
    have HH := Lib.hid hh
    clear hh
    have hlf1 := HL.out.1
    have hlf2 := HL.out.2
    by_cases hin : k < zs.length ∧ k < 40
    · obtain ⟨hkz, hk40⟩ := hin
      have hi1 : (k : Int) < zs.length := by omega
      have hi2 : (k : Int) < 40 := by omega
      have HZ4 := HZ.out.below HH.out.below
      obtain ⟨ad, rfl, _, hcell⟩ := HZ4.at_ (k := k) (by rw [List.length_map]; exact hkz)
      rw [List.getElem_map] at hcell
      obtain ⟨m, hm, em⟩ := and_low (zs[k]'hkz) 15 (by decide)
      obtain ⟨m2, hm2, em2⟩ := and_low (zs[k]'hkz) 16 (by decide)
      rw [show ((15 : Nat) : Int) = 15 from rfl] at em
      rw [show ((16 : Nat) : Int) = 16 from rfl] at em2
      have hca : ∀ W, Below w.heap.size w W → W.cell? (ad.add k) = some (.int .i64 (zs[k]'hkz)) := fun W hb => by
        obtain ⟨ad', e, _, hc⟩ := (HZ.out.below hb).at_ (k := k) (by rw [List.length_map]; exact hkz)
        cases e
        rw [List.getElem_map] at hc
        exact hc
      generalize (zs[k]'hkz) = z at hcell em em2 hca
      have HC := Lib.hid hca
      clear HZ4 hca
      have HM := Lib.hid (And.intro hm hm2)
      have hmI : (m : Int) ≤ 15 := by omega
      have hnv0 : 0 ≤ nv := by omega
      have hkI : nv ≤ 600 := by omega
      go_wp2_with fail
      refine (h_expire wr HH.out (by simp) (nv + m)).mono ?_
      rw [tickI_id (by omega) (by omega)]
      rintro e W4 ⟨v, rfl, hv, h4, _⟩
      by_cases ho : lf ≤ nv + m - lv
      · rw [(over_yes ho).1] at hv
        rw [(over_yes ho).2] at h4
        have H4 := Lib.hid h4
        have HV := Lib.hid hv
        obtain ⟨gv, cp, rfl, _, hgl, hc5⟩ := hv.at_ (k := 0) (x := one7 lv) rfl
        clear h4 hv hcell
        rw [show [one7 lv].length = 1 from rfl]
        go_wp2_with fail
        refine (h_find W4 H4.out E HE.out sT sA HS.out.1 HS.out.2).mono ?_
        rintro e W5 ⟨rfl, h5, hb5⟩
        rw [find7.1, find7.2]
        have d2 : W5.cell? ⟨gv, 2, none⟩ = some (.int .i64 7) := (hb5.cell (p := ⟨gv, 2, none⟩) hgl).trans ((hc5 2 _ rfl).1)
        have d2' : (W5.alloc (.cells (lseC lse0).toArray 29)).cell? ⟨gv, 2, none⟩ = some (.int .i64 7) := (World.cell?_alloc_lt W5 _ _ (block_lt_of_cell d2)).trans d2
        have H5 := Lib.hid h5
        unfold lseC lse0 at d2'
        clear h5 hb5 d2 hc5 hgl
        unfold lseV lse0 errI
        go_wp2_with fail
        clear d2'
        generalize hW : World.alloc _ _ = W6
        have H6 := Lib.hid (show Hold w W6 g b 1 1 lf 1 [] by subst hW; exact H5.out.quiet ((Below.refl _ _).alloc (Nat.le_refl _) _))
        clear hW
        refine (code_bare E 7 (by decide) _ (HE.out.below H6.out.below)).mono ?_
        rintro e w' ⟨rfl, rfl⟩
        go_wp2_with fail
        refine (h_beat _ H6.out (by simp) 7 (nv + m)).mono ?_
        rintro e W7 ⟨rfl, h7, _⟩
        rw [(own7 0).2.2]
        have H7 := Lib.hid h7
        clear h7
        go_wp2_with fail
        go_ret
        exact ⟨rfl, H7.out.below⟩
      · rw [(over_no ho).1] at hv
        rw [(over_no ho).2] at h4
        have H4 := Lib.hid h4
        obtain ⟨A', c', rfl⟩ : ∃ A' c', v = .slice A' 0 c' := by
          rcases hv.shape with ⟨h, _⟩ | ⟨g', cap, cur, h, _⟩
          · exact ⟨_, _, h⟩
          · exact ⟨_, _, h⟩
        have hcell4 : W4.cell? (ad.add k) = some (.int .i64 z) := HC.out W4 H4.out.below
        clear h4 hv hcell
        by_cases hz : m2 = 0
        · subst hz
          go_wp2_with fail
          go_roundw
          case rel => exact ⟨k + 1, lv, nv + m, by omega, by go_num, rfl, rfl, hlv, by omega, by have := HM.out.1; omega, H4.out⟩
          case measure => simp [intOf]; omega
        · have hz2 : ¬ (m2 : Int) = 0 := by omega
          go_wp2_with fail
          refine (h_beat _ H4.out (by simp) 7 (nv + m)).mono ?_
          rintro e W5 ⟨rfl, h5, _⟩
          rw [(own7 lv).1]
          rw [tickI_id (by omega) (by omega), upd7 lv (nv + m) (by omega)] at h5
          have H5 := Lib.hid h5
          clear h5 hcell4
          go_wp2_with fail
          refine (h_beat _ H5.out (by simp) 8 (nv + m)).mono ?_
          rintro e W6 ⟨rfl, h6, _⟩
          rw [(own7 (nv + m)).2.1]
          rw [upd8] at h6
          have H6 := Lib.hid h6
          clear h6
          go_wp2_with fail
          go_roundw
          case rel => exact ⟨k + 1, nv + m, nv + m, by omega, by go_num, rfl, rfl, by omega, by omega, by have := HM.out.1; omega, H6.out⟩
          case measure => simp [intOf]; omega
    · obtain ⟨m, hm, em⟩ := and_low ticks 1 (by decide)
      rw [show ((1 : Nat) : Int) = 1 from rfl] at em
      have hnv2 : nv ≤ 600 := by omega
      have hmI : (m : Int) ≤ 1 := by omega
      have HIN := Lib.hid hin
      have h01 : m = 0 ∨ m = 1 := by omega
      clear hin
      have HM1 := Lib.hid h01
      clear h01
      by_cases h1 : (k : Int) < zs.length
      · have h2 : ¬ (k : Int) < 40 := by have := HIN.out; omega
        go_wp2_with fail
        refine (h_expire wr HH.out (by simp) _).mono ?_
        rintro e W4 ⟨v, rfl, hv, h4, _⟩
        rcases HM1.out with rfl | rfl
        · rw [show lv + lf - 1 + ((0 : Nat) : Int) = lv + lf - 1 by omega, tickI_id (by omega) (by omega), (over_no (by omega)).1] at hv
          obtain ⟨A', c', rfl⟩ : ∃ A' c', v = .slice A' 0 c' := by
            rcases hv.shape with ⟨h, _⟩ | ⟨g', cap, cur, h, _⟩
            · exact ⟨_, _, h⟩
            · exact ⟨_, _, h⟩
          have H4 := Lib.hid h4.below
          clear h4 hv
          go_wp2_with fail
          go_ret
          exact ⟨rfl, H4.out⟩
        · rw [show lv + lf - 1 + ((1 : Nat) : Int) = lv + lf by omega, tickI_id (by omega) (by omega), (over_yes (by omega)).1] at hv
          obtain ⟨A', c', rfl⟩ : ∃ A' c', v = .slice A' 1 c' := by
            rcases hv.shape with ⟨_, h⟩ | ⟨g', cap, cur, h, _⟩
            · cases h
            · exact ⟨_, _, h⟩
          have H4 := Lib.hid h4.below
          clear h4 hv
          go_wp2_with fail
          go_ret
          exact ⟨rfl, H4.out⟩
      · go_wp2_with fail
        refine (h_expire wr HH.out (by simp) _).mono ?_
        rintro e W4 ⟨v, rfl, hv, h4, _⟩
        rcases HM1.out with rfl | rfl
        · rw [show lv + lf - 1 + ((0 : Nat) : Int) = lv + lf - 1 by omega, tickI_id (by omega) (by omega), (over_no (by omega)).1] at hv
          obtain ⟨A', c', rfl⟩ : ∃ A' c', v = .slice A' 0 c' := by
            rcases hv.shape with ⟨h, _⟩ | ⟨g', cap, cur, h, _⟩
            · exact ⟨_, _, h⟩
            · exact ⟨_, _, h⟩
          have H4 := Lib.hid h4.below
          clear h4 hv
          go_wp2_with fail
          go_ret
          exact ⟨rfl, H4.out⟩
        · rw [show lv + lf - 1 + ((1 : Nat) : Int) = lv + lf by omega, tickI_id (by omega) (by omega), (over_yes (by omega)).1] at hv
          obtain ⟨A', c', rfl⟩ : ∃ A' c', v = .slice A' 1 c' := by
            rcases hv.shape with ⟨_, h⟩ | ⟨g', cap, cur, h, _⟩
            · cases h
            · exact ⟨_, _, h⟩
          have H4 := Lib.hid h4.below
          clear h4 hv
          go_wp2_with fail
          go_ret
          exact ⟨rfl, H4.out⟩
end Go.Proofs.YtlkgdnmfgcmldaaDoor
