/- The walk of the reference's Sum. -/
import Derived.Test.YtfoljmpphbhobaaDoorNum10
import Derived.Deep.LoopGhost
namespace Go.Proofs.YtfoljmpphbhobaaDoor
open Go.RowKit Go.Spk
set_option linter.unusedVariables false
/-- The first n of the places qs of a list, each turned by f. -/
def sets (f : Int → Int) (qs : List Nat) (ws : List Int) : Nat → List Int
  | 0 => ws
  | n + 1 => (sets f qs ws n).set (qs.getD n 0) (f (ix (sets f qs ws n) (qs.getD n 0)))
theorem sets_length (f : Int → Int) (qs : List Nat) (ws : List Int) (n : Nat) : (sets f qs ws n).length = ws.length := by
  induction n with
  | zero => rfl
  | succ n ih => simp [sets, ih]
theorem sets_u8 (f : Int → Int) (hf : ∀ x, 0 ≤ x → x ≤ 255 → 0 ≤ f x ∧ f x ≤ 255) (qs : List Nat) (ws : List Int) (hw : U8s ws) (n : Nat) : U8s (sets f qs ws n) := by
  induction n with
  | zero => exact hw
  | succ n ih =>
    intro i
    unfold sets
    by_cases h : qs.getD n 0 < (sets f qs ws n).length
    · rw [ix_set _ _ _ _ h]
      split
      · exact hf _ (ih _).1 (ih _).2
      · exact ih i
    · rw [List.set_eq_of_length_le (by omega)]; exact ih i
def qsA : List Nat := [3, 7, 11, 15]
def qsB : List Nat := [4, 8, 12]
theorem qsA_at (n : Nat) (h : n < 4) : qsA.getD n 0 < 16 ∧ ix [3, 7, 11, 15] n = ((qsA.getD n 0 : Nat) : Int) := by
  revert n; decide
theorem qsB_at (n : Nat) (h : n < 3) : qsB.getD n 0 < 16 ∧ ix [4, 8, 12] n = ((qsB.getD n 0 : Nat) : Int) := by
  revert n; decide
/-- The key's first half, some of its bits cleared, as a number; a text's sum. -/
def clampI (ks : List Int) : List Int := sets (fun x => x / 4 * 4) qsB (sets (fun x => x % 16) qsA (ks.take 16) 4) 3
def clampN (ks : List Int) : Nat := (nb (clampI ks)).toNat
def polyN (ks ws : List Int) : Nat := accN (clampN ks) ws ((ws.length + 15) / 16) + (nb (ks.drop 16)).toNat
def polyI (ks ws : List Int) : List Int := bytesN (polyN ks ws) 16
theorem sets_append (f : Int → Int) (qs : List Nat) (a b : List Int) (n : Nat) (h : ∀ i, i < n → qs.getD i 0 < a.length) : sets f qs (a ++ b) n = sets f qs a n ++ b := by
  induction n with
  | zero => rfl
  | succ n ih =>
    have hl : qs.getD n 0 < (sets f qs a n).length := by rw [sets_length]; exact h n (by omega)
    rw [sets, ih (fun i hi => h i (by omega)), ix_append_left _ _ _ hl, List.set_append_left _ _ hl]
    rfl
theorem clamp_take (a b : List Int) (h : a.length = 16) : (sets (fun x => x / 4 * 4) qsB (sets (fun x => x % 16) qsA (a ++ b) 4) 3).take 16 = sets (fun x => x / 4 * 4) qsB (sets (fun x => x % 16) qsA a 4) 3 := by
  have e := sets_length (fun x => x / 4 * 4) qsB (sets (fun x => x % 16) qsA a 4) 3
  have e2 := sets_length (fun x => x % 16) qsA a 4
  rw [sets_append _ qsA a b 4 (fun i hi => by rw [h]; exact (qsA_at i hi).1), sets_append _ qsB _ b 3 (fun i hi => by rw [e2, h]; exact (qsB_at i hi).1)]
  rw [List.take_left' (by rw [e, e2, h])]
theorem run_one (W : World) (b : Int) : (convert 28 9 (.slice (some ⟨W.heap.size, 0, none⟩) 1 1)).run Tryd.prog (W.alloc (.cells #[.int .u8 b] 5)) = .ok (.string (strOfNums [b])) (W.alloc (.cells #[.int .u8 b] 5)) :=
  run_convert_bytes_arg (P := Tryd.prog) _ 28 5 Tryd.underlying28 Tryd.underlying5 W.heap.size 0 1 1 [b] rfl (fun q hq => by
    obtain rfl : q = 0 := by omega
    have h : Whole (W.alloc (.cells #[.int .u8 b] 5)) W.heap.size 5 #[.int .u8 b] := Whole.made W _ _
    rw [h.at_]; rfl) 9 Tryd.underlying9
/-- What Sum's rounds keep. -/
def Kp (w : World) (g1 c1 R g4 c4 : Nat) (W : World) : Prop := Below w.heap.size w W ∧ Dr W g1 c1 (dg R) ∧ Dr W g4 c4 (dg PP)
theorem Kp.on {w : World} {g1 c1 R g4 c4 : Nat} {W W' : World} (h : Kp w g1 c1 R g4 c4 W) (hb : Below W.heap.size W W') : Kp w g1 c1 R g4 c4 W' :=
  ⟨h.1.trans (hb.mono h.1.size), h.2.1.on hb, h.2.2.on hb⟩
theorem below_alloc_of {w w1 : World} (o : Obj) (h : Below (w.alloc o).heap.size (w.alloc o) w1) : Below w.heap.size w w1 :=
  ((Below.refl _ w).alloc (Nat.le_refl _) o).trans (h.mono (by simp))
theorem below_drew_of {w w1 : World} (m : Nat) (h : Below (w.drewN m).heap.size (w.drewN m) w1) : Below w.heap.size w w1 :=
  (below_drawnN (Below.refl _ w) m).trans h
theorem bI_one : bI (strOfNums [1]) = [1] := bI_str (by decide)
theorem cat_one (pt : ByteArray) : bI (pt ++ strOfNums [1]) = bI pt ++ [1] := by simp [bI, strOfNums]
set_option maxRecDepth 100000 in
set_option maxHeartbeats 2000000 in
theorem rsum_calls (key s : ByteArray) (hk : key.size = 32) (hs : s.size ≤ 100000000) (w : World) :
    Calls Tryd.prog 21 #[.string key, .string s] w fun e w' => e = .returned (.string (strOfNums (polyI (bI key) (bI s)))) ∧ Below w.heap.size w w' := by
  have HK := Lib.hid hk
  obtain ⟨k1, hk1⟩ : ∃ k1, k1 = key.extract 0 16 := ⟨_, rfl⟩
  have hk1s : k1.size = 16 := by rw [hk1]; simp; omega
  have hcv := fun wx : World => run_bytes_of_string (P := Tryd.prog) wx 9 28 5 k1 Tryd.underlying9 Tryd.underlying28 Tryd.underlying5
  have hks : (16 : Int) ≤ key.size := by omega
  have HK1 := Lib.hid hk1
  have hke := hk1.symm
  clear hk1
  go_enter Tryd.func21, Tryd.ntmps21
  go_wp2_with fail
  have hcap := grownCap_ge w 16 0 5
  generalize grownCap w 16 0 5 = c at hcap ⊢
  obtain ⟨ws, hws⟩ : ∃ ws, ws = bI k1 ++ List.replicate (c - k1.size) 0 := ⟨_, rfl⟩
  refine name_wp (fun W => Below w.heap.size w W ∧ (∃ m, Bys W w.heap.size 5 m ws) ∧ Whole W (w.heap.size + 1) 3 (rowI .i64 [3, 7, 11, 15])) ?_ ?_
  · refine ⟨by go_grown, ?_, ?_⟩
    · rw [hws]; exact ⟨_, Bys.alloc (Bys.made rfl k1 c _) _⟩
    · exact Whole.new (by simp) rfl
  intro W0 ⟨hB0, ⟨m, ho0⟩, hq0⟩
  have hlw : ws.length = c := by rw [hws, List.length_append, bI_length, List.length_replicate]; omega
  have HW := Lib.hid hws; have HLW := Lib.hid hlw
  clear hws hlw hcv
  have hu0 : U8s ws := by
    rw [HW.out]
    refine U8s_of_mem fun b hb => ?_
    rcases List.mem_append.1 hb with h | h
    · obtain ⟨i, hi, rfl⟩ := List.getElem_of_mem h
      have := U8s_bI k1 i
      unfold ix at this
      simp only [List.getD, List.getElem?_eq_getElem hi, Option.getD_some] at this
      exact this
    · rw [(List.mem_replicate.1 h).2]; omega
  have HU0 := Lib.hid hu0
  clear hu0
  go_loopw [20] (fun i wr => ∃ n : Nat, n ≤ 4 ∧ i = .int .i64 n ∧ W0.grownBy wr (some w.heap.size) ∧ Bys wr w.heap.size 5 m (sets (fun x => x % 16) qsA ws n)) (fun i _ => 4 - (intOf i).toNat)
  case atStart => exact ⟨0, by omega, rfl, World.grownBy.refl _ _, ho0⟩
  case round =>
    obtain ⟨n, hn, rfl, hG, hY⟩ := hrel
    by_cases h1 : n < 4
    · have i1 : (n : Int) < 4 := by omega
      obtain ⟨q1, q2⟩ := qsA_at n h1
      have cq := (hq0.only hG (ne_some (by omega))).int n h1
      rw [q2] at cq
      have hu := sets_u8 (fun x => x % 16) (fun x h0 h1 => by omega) qsA ws HU0.out n
      have hl := sets_length (fun x => x % 16) qsA ws n
      have hset : sets (fun x => x % 16) qsA ws (n + 1) = (sets (fun x => x % 16) qsA ws n).set (qsA.getD n 0) (ix (sets (fun x => x % 16) qsA ws n) (qsA.getD n 0) % 16) := rfl
      have HSET := Lib.hid hset
      generalize qsA.getD n 0 = q at *
      generalize sets (fun x => x % 16) qsA ws n = V at *
      have hV := hu q
      obtain ⟨v0, v1⟩ := hV
      have cv := hY.cell q (by rw [hl, HLW.out]; omega)
      have fv := hY.frozen q (by rw [hl, HLW.out]; omega)
      have n1 : (q : Int) < 16 := by omega
      clear hset hu hl q2
      go_wp2_with fail
      go_roundw
      case rel => exact ⟨n + 1, by omega, by go_num, only_trans hG (only_stored _ rfl _), by rw [HSET.out]; exact hY.set q _⟩
      case measure => simp [intOf]; omega
    · obtain rfl : n = 4 := by omega
      rw [show ((4 : Nat) : Int) = 4 from rfl]
      have hu4 := sets_u8 (fun x => x % 16) (fun x h0 h1 => by omega) qsA ws HU0.out 4
      have hl4 := sets_length (fun x => x % 16) qsA ws 4
      rw [HLW.out] at hl4
      have hB4 := hB0.grown hG hB0.size (fun q hq => by injection hq with hq; omega)
      obtain ⟨V4, hV4⟩ : ∃ V, V = sets (fun x => x % 16) qsA ws 4 := ⟨_, rfl⟩
      rw [← hV4] at hY hu4 hl4
      have HV4 := Lib.hid hV4; have HU4 := Lib.hid hu4; have HL4 := Lib.hid hl4
      clear hq0 hG ho0 hB0 hV4 hu4 hl4
      go_wp2_with fail
      refine name_wp (fun W => Below w.heap.size w W ∧ Bys W w.heap.size 5 m V4 ∧ Whole W wr.heap.size 3 (rowI .i64 [4, 8, 12])) ⟨hB4.alloc hB4.size _, hY.alloc _, Whole.new rfl rfl⟩ ?_
      have hgq : w.heap.size < wr.heap.size := hY.inside
      generalize wr.heap.size = gq at hgq ⊢
      clear hY hB4
      intro W5 ⟨hB5, hY5, hq5⟩
      go_loopw [35] (fun i wr => ∃ n : Nat, n ≤ 3 ∧ i = .int .i64 n ∧ W5.grownBy wr (some w.heap.size) ∧ Bys wr w.heap.size 5 m (sets (fun x => x / 4 * 4) qsB V4 n)) (fun i _ => 3 - (intOf i).toNat)
      case atStart => exact ⟨0, by omega, rfl, World.grownBy.refl _ _, hY5⟩
      case round =>
        obtain ⟨n, hn, rfl, hG, hY⟩ := hrel
        by_cases h1 : n < 3
        · have i1 : (n : Int) < 3 := by omega
          obtain ⟨q1, q2⟩ := qsB_at n h1
          have cq := (hq5.only hG (ne_some (by omega))).int n h1
          rw [q2] at cq
          have hu := sets_u8 (fun x => x / 4 * 4) (fun x h0 h1 => by omega) qsB V4 HU4.out n
          have hl := sets_length (fun x => x / 4 * 4) qsB V4 n
          have hset : sets (fun x => x / 4 * 4) qsB V4 (n + 1) = (sets (fun x => x / 4 * 4) qsB V4 n).set (qsB.getD n 0) (ix (sets (fun x => x / 4 * 4) qsB V4 n) (qsB.getD n 0) / 4 * 4) := rfl
          have HSET := Lib.hid hset
          generalize qsB.getD n 0 = q at *
          generalize sets (fun x => x / 4 * 4) qsB V4 n = V at *
          have hV := hu q
          obtain ⟨v0, v1⟩ := hV
          have cv := hY.cell q (by rw [hl, HL4.out]; omega)
          have fv := hY.frozen q (by rw [hl, HL4.out]; omega)
          have n1 : (q : Int) < 16 := by omega
          clear hset hu hl q2
          go_wp2_with fail
          go_roundw
          case rel => exact ⟨n + 1, by omega, by go_num, only_trans hG (only_stored _ rfl _), by rw [HSET.out]; exact hY.set q _⟩
          case measure => simp [intOf]; omega
        · obtain rfl : n = 3 := by omega
          rw [show ((3 : Nat) : Int) = 3 from rfl]
          have hu7 := sets_u8 (fun x => x / 4 * 4) (fun x h0 h1 => by omega) qsB V4 HU4.out 3
          have hl7 := sets_length (fun x => x / 4 * 4) qsB V4 3
          rw [HL4.out] at hl7
          have hB7 := hB5.grown hG hB5.size (fun q hq => by injection hq with hq; omega)
          obtain ⟨V7, hV7⟩ : ∃ V, V = sets (fun x => x / 4 * 4) qsB V4 3 := ⟨_, rfl⟩
          rw [← hV7] at hY hu7 hl7
          have hl16 : (V7.take 16).length = 16 := by rw [List.length_take, hl7]; omega
          have hcl : ∀ q, q < 16 → wr.cell? ⟨w.heap.size, 0 + q, none⟩ = some (.int .u8 ((V7.take 16).getD q 0)) := fun q hq => by
            rw [Nat.zero_add, hY.cell q (by rw [hl7]; omega)]
            congr 2
            unfold ix; simp [List.getD, hq]
          have hrun := run_convert_bytes_arg (P := Tryd.prog) wr 28 5 Tryd.underlying28 Tryd.underlying5 w.heap.size 0 16 c (V7.take 16) hl16 hcl 9 Tryd.underlying9
          have hm7 : ∀ b ∈ V7.take 16, 0 ≤ b ∧ b ≤ 255 := fun b hb => by
            obtain ⟨i, hi, rfl⟩ := List.getElem_of_mem (List.mem_of_mem_take hb)
            have := hu7 i
            unfold ix at this
            simp only [List.getD, List.getElem?_eq_getElem hi, Option.getD_some] at this
            exact this
          have HV7 := Lib.hid hV7; have HM7 := Lib.hid hm7; have HL16 := Lib.hid hl16; have HB7 := Lib.hid hB7
          clear hV7 hm7 hl16 hcl hu7 hl7 hB7 hG hY hq5 hY5 hB5
          go_wp2_with fail
          refine (of_calls (strOfNums (V7.take 16)) (by rw [← bI_length, bI_str HM7.out, HL16.out]; decide) wr).mono ?_
          rw [bI_str HM7.out]
          rintro e w1 ⟨g1, c1, rfl, hD1, hb1⟩
          obtain ⟨R, hR⟩ : ∃ R, R = (nb (V7.take 16)).toNat := ⟨_, rfl⟩
          rw [← hR] at hD1 ⊢
          have HR := Lib.hid hR
          have HB1 := Lib.hid (HB7.out.trans (hb1.mono HB7.out.size))
          have HD1 := Lib.hid hD1
          clear hR hb1 hD1 hrun
          go_wp2_with fail
          refine (power_calls w1).mono ?_
          rintro e w2 ⟨g2, c2, rfl, hD2, hb2⟩
          have HD2 := Lib.hid hD2; have HB2 := Lib.hid hb2
          clear hD2 hb2
          go_wp2_with fail
          refine (small_calls 5 (by decide) w2).mono ?_
          rintro e w3 ⟨g3, c3, rfl, hD3, hb3⟩
          have HD3 := Lib.hid hD3; have HB3 := Lib.hid hb3
          clear hD3 hb3
          go_wp2_with fail
          have l2 : (dg P130).length ≤ 1000 := by rw [dg_p130]; decide
          have l3 : (dg 5).length ≤ 1000 := Nat.le_trans (dg_len (m := 1) (by decide)) (by decide)
          refine (sub_calls P130 5 g2 c2 g3 c3 (by decide +kernel) w3 (HD2.out.on HB3.out) HD3.out l2 l3).mono ?_
          rw [show P130 - 5 = PP from rfl]
          rintro e w4 ⟨g4, c4, rfl, hD4, hb4⟩
          have HD1' := Lib.hid (((HD1.out.on HB2.out).on HB3.out).on hb4)
          have HB4 := Lib.hid (HB1.out.trans ((HB2.out.mono HB1.out.size).trans ((HB3.out.mono (Nat.le_trans HB1.out.size HB2.out.size)).trans (hb4.mono (Nat.le_trans HB1.out.size (Nat.le_trans HB2.out.size HB3.out.size))))))
          have HD4 := Lib.hid hD4
          clear hb4 hD4 HD1 HB1 HD2 HB2 HD3 HB3 l2 l3
          go_wp2_with fail
          refine name_wp (fun W => Below w.heap.size w W ∧ Dr W g1 c1 (dg R) ∧ Dr W g4 c4 (dg PP) ∧ Dr W w4.heap.size 0 (dg 0))
            ⟨HB4.out.alloc HB4.out.size _, HD1'.out.on ((Below.refl _ w4).alloc (Nat.le_refl _) _), HD4.out.on ((Below.refl _ w4).alloc (Nat.le_refl _) _), by rw [dg_zero]; exact ⟨by simp, by simp, by decide, fun i hi => by simp at hi⟩⟩ ?_
          generalize w4.heap.size = g5
          clear HD1' HB4 HD4
          intro W5 ⟨hB5, hR5, hP5, hZ5⟩
          have hlR : (dg R).length ≤ 9 := by
            rw [HR.out]
            have h := nb_bd _ HM7.out
            rw [HL16.out] at h
            refine dg_len ?_
            have : (256 : Int) ^ 16 = ((256 ^ 16 : Nat) : Int) := by decide +kernel
            have h2 : 256 ^ 16 < 65536 ^ 9 := by decide +kernel
            omega
          have hlP : (dg PP).length ≤ 9 := dg_len (by decide +kernel)
          have HLR := Lib.hid hlR; have HLP := Lib.hid hlP
          clear hlR hlP
          go_loopw [12, 13] (fun v i wr => ∃ k g cap : Nat, 16 * k < s.size + 16 ∧ i = .int .i64 (16 * (k : Int)) ∧ v = .slice (some ⟨g, 0, none⟩) (dg (accN R (bI s) k)).length cap ∧ Dr wr g cap (dg (accN R (bI s) k)) ∧ Dr wr g1 c1 (dg R) ∧ Dr wr g4 c4 (dg PP) ∧ Below w.heap.size w wr) (fun _ i _ => s.size - (intOf i).toNat)
          case atStart => exact ⟨0, g5, 0, by omega, rfl, by rw [show accN R (bI s) 0 = 0 from rfl, dg_zero]; rfl, hZ5, hR5, hP5, hB5⟩
          case round =>
            clear hB5 hR5 hP5 hZ5
            obtain ⟨k, ga, ca, hk, rfl, rfl, hA, hRr, hPr, hB⟩ := hrel
            obtain ⟨A, hAe⟩ : ∃ A, A = accN R (bI s) k := ⟨_, rfl⟩
            rw [← hAe] at hA ⊢
            have HAE := Lib.hid hAe
            have hAlt : A < PP := by rw [hAe]; exact accN_lt _ _ _
            have HALT := Lib.hid hAlt; have HA := Lib.hid hA; have HRR := Lib.hid hRr; have HPR := Lib.hid hPr; have HBB := Lib.hid hB
            clear hAe hAlt hA hRr hPr hB
            by_cases h1 : 16 * k < s.size
            · have hN17 : ∃ N, N = (nb (partI (bI s) k)).toNat ∧ (dg N).length ≤ 9 := by
                refine ⟨_, rfl, dg_len ?_⟩
                have h := nb_bd (partI (bI s) k) (fun b hb => by
                  rcases List.mem_append.1 hb with h | h
                  · exact mem_of_U8s (U8s_bI s) b (List.mem_of_mem_drop (List.mem_of_mem_take h))
                  · simp at h; omega)
                have hl : (partI (bI s) k).length ≤ 17 := by
                  unfold partI
                  rw [List.length_append, List.length_take]
                  have : ([1] : List Int).length = 1 := rfl
                  omega
                have h2 : (256 : Int) ^ (partI (bI s) k).length ≤ ((256 ^ 17 : Nat) : Int) := by
                  have : 256 ^ (partI (bI s) k).length ≤ 256 ^ 17 := Nat.pow_le_pow_right (by decide) hl
                  exact_mod_cast this
                have h3 : 256 ^ 17 < 65536 ^ 9 := by decide +kernel
                omega
              obtain ⟨N, hN, lN⟩ := hN17
              have lA : (dg A).length ≤ 9 := dg_len (Nat.lt_trans HALT.out (by decide +kernel))
              have HN := Lib.hid hN; have LN := Lib.hid lN; have LA := Lib.hid lA
              clear hN lN lA
              have i1 : 16 * (k : Int) < s.size := by omega
              by_cases h2 : 16 * k + 16 ≤ s.size
              case' pos =>
                have i3 : 16 * (k : Int) + 16 ≤ s.size := by omega
                obtain ⟨pt, hpt⟩ : ∃ pt, pt = s.extract (16 * k) (16 * k + 16) := ⟨_, rfl⟩
                have n2 : (16 * (k : Int) + 16).toNat = 16 * k + 16 := by omega
                have hmn : min (16 * (k : Int) + 16) (s.size : Int) = 16 * (k : Int) + 16 := by omega
                have n1 : (16 * (k : Int)).toNat = 16 * k := by omega
                have hpb : bI pt ++ [1] = partI (bI s) k := by
                  rw [hpt, partI]
                  simp [bI]
                have hps : pt.size ≤ 16 := by rw [hpt]; simp; omega
              case' neg =>
                have i3 : ¬ 16 * (k : Int) + 16 ≤ s.size := by omega
                obtain ⟨pt, hpt⟩ : ∃ pt, pt = s.extract (16 * k) s.size := ⟨_, rfl⟩
                have hmn : min (16 * (k : Int) + 16) (s.size : Int) = s.size := by omega
                have n1 : (16 * (k : Int)).toNat = 16 * k := by omega
                have hpb : bI pt ++ [1] = partI (bI s) k := by
                  rw [hpt, partI]
                  simp [bI]
                  omega
                have hps : pt.size ≤ 16 := by rw [hpt]; simp; omega
              all_goals
                have HPT := Lib.hid hpt.symm; have HPB := Lib.hid hpb
                have hpe := hpt.symm
                have hone := run_one
                have s1 : (strOfNums [1]).size = 1 := by rw [← bI_length, bI_one]; rfl
                have hcs : pt.size + (strOfNums [1]).size ≤ 17 := by omega
                have HCS := Lib.hid hcs
                clear hpt hpb hps s1
                go_wp2_with fail
                clear hone hcs
                refine (of_calls (pt ++ strOfNums [1]) (by rw [ByteArray.size_append]; have := HCS.out; omega) _).mono ?_
                rw [cat_one, HPB.out, ← HN.out]
                rintro e w1 ⟨g6, c6, rfl, hD6, hb6⟩
                have hb6' := below_alloc_of _ hb6
                have HK1 := Lib.hid (show Kp w g1 c1 R g4 c4 w1 from Kp.on ⟨HBB.out, HRR.out, HPR.out⟩ hb6')
                have HA1 := Lib.hid (HA.out.on hb6'); have HD6 := Lib.hid hD6
                clear hb6 hb6' hD6 HA HRR HPR HBB
                go_wp2_with fail
                refine (add_calls A N ga ca g6 c6 w1 HA1.out HD6.out (by have := LA.out; omega) (by have := LN.out; omega)).mono ?_
                rintro e w2 ⟨g7, c7, rfl, hD7, hb7⟩
                have HK2 := Lib.hid (HK1.out.on hb7); have HD7 := Lib.hid hD7
                clear hb7 hD7 HA1 HD6 HK1
                go_wp2_with fail
                refine (mul_calls (A + N) R g7 c7 g1 c1 w2 HD7.out HK2.out.2.1 (by have := LA.out; have := LN.out; have := len_add A N; omega) (by have := HLR.out; omega)).mono ?_
                rintro e w3 ⟨g8, c8, rfl, hD8, hb8⟩
                have hlv : (dg ((A + N) * R)).length ≤ 30 := by have := LA.out; have := LN.out; have := HLR.out; have := len_add A N; have := len_mul (A + N) R; omega
                have hacc : (A + N) * R % PP = accN R (bI s) (k + 1) := by rw [accN, ← HAE.out, ← HN.out]
                obtain ⟨v, hv⟩ : ∃ v, v = (A + N) * R := ⟨_, rfl⟩
                rw [← hv] at hD8 hlv hacc ⊢
                have HLV := Lib.hid hlv; have HACC := Lib.hid hacc
                have HK3 := Lib.hid (HK2.out.on hb8); have HD8 := Lib.hid hD8
                clear hv hlv hacc hD8 hb8 HK2 HD7
                go_wp2_with fail
                go_loopg [12] v (fun n a12 wx => ∃ g cc : Nat, a12 = .slice (some ⟨g, 0, none⟩) (dg n).length cc ∧ Dr wx g cc (dg n) ∧ n % PP = v % PP ∧ n ≤ v ∧ Kp w g1 c1 R g4 c4 wx)
                case atStart => exact ⟨g8, c8, rfl, HD8.out, rfl, Nat.le_refl _, HK3.out⟩
                case round =>
                  clear HD8 HK3
                  obtain ⟨g, cc, rfl, hDg, hgm, hgv, hK⟩ := hrel
                  have HD := Lib.hid hDg; have HGM := Lib.hid hgm; have HGV := Lib.hid hgv; have HK := Lib.hid hK
                  clear hDg hgm hgv hK
                  go_wp2_with fail
                  refine (power_calls wr).mono ?_
                  rintro e w4 ⟨g9, c9, rfl, hD9, hb9⟩
                  have HK4 := Lib.hid (HK.out.on hb9); have HD4 := Lib.hid (HD.out.on hb9); have HD9 := Lib.hid hD9
                  clear hb9 hD9 HK HD
                  go_wp2_with fail
                  refine (cmp_calls gk P130 g cc g9 c9 w4 HD4.out HD9.out).mono ?_
                  rintro e w5 ⟨rfl, m5, rfl⟩
                  have HK5 := Lib.hid (HK4.out.on (below_drawnN (Below.refl _ _) m5)); have HD5 := Lib.hid (HD4.out.on (below_drawnN (Below.refl _ _) m5))
                  clear HK4 HD4 HD9
                  generalize w4.drewN m5 = w6 at HK5 HD5 ⊢
                  by_cases hge : P130 ≤ gk
                  · have hc := (cmpN_ge gk P130).2 hge
                    have hlt := redN_lt hge
                    have HLT := Lib.hid hlt
                    have lg : (dg gk).length ≤ 30 := Nat.le_trans (len_mono HGV.out) HLV.out
                    have LG := Lib.hid lg
                    clear hge hlt lg
                    go_wp2_with fail
                    refine (low_calls gk g cc w6 HD5.out (by have := LG.out; omega)).mono ?_
                    rintro e w7 ⟨g10, c10, rfl, hD10, hb10⟩
                    have HK7 := Lib.hid (HK5.out.on hb10); have HD7 := Lib.hid (HD5.out.on hb10); have HD10 := Lib.hid hD10
                    clear hb10 hD10 HK5 HD5
                    go_wp2_with fail
                    refine (half_calls gk g cc w7 HD7.out (by have := LG.out; omega)).mono ?_
                    rintro e w8 ⟨g11, c11, rfl, hD11, hb11⟩
                    have HK8 := Lib.hid (HK7.out.on hb11); have HD10 := Lib.hid (HD10.out.on hb11); have HD11 := Lib.hid hD11
                    clear hb11 hD11 HK7 HD7
                    go_wp2_with fail
                    refine (small_calls 5 (by decide) w8).mono ?_
                    rintro e w9 ⟨g12, c12, rfl, hD12, hb12⟩
                    have HK9 := Lib.hid (HK8.out.on hb12); have HD10 := Lib.hid (HD10.out.on hb12); have HD11 := Lib.hid (HD11.out.on hb12); have HD12 := Lib.hid hD12
                    clear hb12 hD12 HK8
                    have l5 : (dg 5).length ≤ 1 := dg_len (m := 1) (by decide)
                    have lh : (dg (gk / P130)).length ≤ 30 := by have := len_mono (Nat.div_le_self gk P130); have := LG.out; omega
                    have ll : (dg (gk % P130)).length ≤ 30 := by have := len_mono (Nat.mod_le gk P130); have := LG.out; omega
                    have lm : (dg (gk / P130 * 5)).length ≤ 31 := by have := len_mul (gk / P130) 5; omega
                    have L5 := Lib.hid l5; have LH := Lib.hid lh; have LL := Lib.hid ll; have LM := Lib.hid lm
                    clear l5 lh ll lm
                    go_wp2_with fail
                    refine (mul_calls (gk / P130) 5 g11 c11 g12 c12 w9 HD11.out HD12.out (by have := LH.out; omega) (by have := L5.out; omega)).mono ?_
                    rintro e w10 ⟨g13, c13, rfl, hD13, hb13⟩
                    have HK10 := Lib.hid (HK9.out.on hb13); have HD10 := Lib.hid (HD10.out.on hb13); have HD13 := Lib.hid hD13
                    clear hb13 hD13 HK9 HD11 HD12
                    go_wp2_with fail
                    refine (add_calls (gk % P130) (gk / P130 * 5) g10 c10 g13 c13 w10 HD10.out HD13.out (by have := LL.out; omega) (by have := LM.out; omega)).mono ?_
                    rintro e w11 ⟨g14, c14, rfl, hD14, hb14⟩
                    rw [show gk % P130 + gk / P130 * 5 = redN gk from rfl] at hD14 ⊢
                    have HK11 := Lib.hid (HK10.out.on hb14); have HD14 := Lib.hid hD14
                    clear hb14 hD14 HK10 HD10 HD13
                    go_wp2_with fail
                    go_roundg (redN gk)
                    case rel => exact ⟨g14, c14, rfl, HD14.out, by rw [redN_mod]; exact HGM.out, by have := HLT.out; have := HGV.out; omega, HK11.out⟩
                    case measure => exact HLT.out
                  · have hc : ¬ 0 ≤ cmpN gk P130 := fun h => hge ((cmpN_ge gk P130).1 h)
                    have hlt : gk < P130 := by omega
                    have hlast := last_mod hlt
                    rw [HGM.out, HACC.out] at hlast
                    have HLAST := Lib.hid hlast
                    have lg : (dg gk).length ≤ 30 := Nat.le_trans (len_mono HGV.out) HLV.out
                    have LG := Lib.hid lg
                    clear hge hlt lg hlast
                    go_wp2_with fail
                    refine (cmp_calls gk PP g cc g4 c4 w6 HD5.out HK5.out.2.2).mono ?_
                    rintro e w5 ⟨rfl, m5, rfl⟩
                    have HK6 := Lib.hid (HK5.out.on (below_drawnN (Below.refl _ _) m5)); have HD6 := Lib.hid (HD5.out.on (below_drawnN (Below.refl _ _) m5))
                    clear HK5 HD5 hc
                    generalize w6.drewN m5 = w7 at HK6 HD6 ⊢
                    by_cases hge : PP ≤ gk
                    · have hc := (cmpN_ge gk PP).2 hge
                      have hl2 := HLAST.out
                      rw [if_pos hge] at hl2
                      have HL2 := Lib.hid hl2; have HGE := Lib.hid hge
                      clear hl2 hge
                      go_wp2_with fail
                      refine (sub_calls gk PP g cc g4 c4 HGE.out w7 HD6.out HK6.out.2.2 (by have := LG.out; omega) (by have := HLP.out; omega)).mono ?_
                      rw [HL2.out]
                      rintro e w8 ⟨g9', c9', rfl, hD9, hb9⟩
                      have HK8 := Lib.hid (HK6.out.on hb9); have HD9 := Lib.hid hD9
                      clear hb9 hD9 HK6 HD6
                      go_wp2_with fail
                      go_roundw
                      case rel => exact ⟨k + 1, g9', c9', by omega, by go_num, rfl, HD9.out, HK8.out.2.1, HK8.out.2.2, HK8.out.1⟩
                      case measure => simp [intOf]; omega
                    · have hc : ¬ 0 ≤ cmpN gk PP := fun h => hge ((cmpN_ge gk PP).1 h)
                      have hl2 := HLAST.out
                      rw [if_neg hge] at hl2
                      have HL2 := Lib.hid hl2
                      clear hl2 hge
                      go_wp2_with fail
                      go_roundw
                      case rel => exact ⟨k + 1, g, cc, by omega, by go_num, by rw [← HL2.out], by rw [← HL2.out]; exact HD6.out, HK6.out.2.1, HK6.out.2.2, HK6.out.1⟩
                      case measure => simp [intOf]; omega
            · have hkk : k = ((bI s).length + 15) / 16 := by rw [bI_length]; omega
              have hks2 : (16 : Int) ≤ key.size := by have := HK.out; omega
              have hRc : R = clampN (bI key) := by
                rw [HR.out, HV7.out, HV4.out, HW.out, clamp_take _ _ (by rw [bI_length, hk1s])]
                unfold clampN clampI
                rw [show (bI key).take 16 = bI k1 by rw [HK1.out]; simp [bI]]
              have hS : nb (bI (key.extract 16 32)) = nb ((bI key).drop 16) := by
                congr 1
                simp [bI]
                rw [List.take_of_length_le]
                have := HK.out
                simp
                omega
              have hA : A + (nb ((bI key).drop 16)).toNat = polyN (bI key) (bI s) := by
                unfold polyN
                rw [← hkk, ← hRc, ← HAE.out]
              have lA : (dg A).length ≤ 9 := dg_len (Nat.lt_trans HALT.out (by decide +kernel))
              have HS := Lib.hid hS; have HA2 := Lib.hid hA; have LA := Lib.hid lA
              have lS : (dg (nb ((bI key).drop 16)).toNat).length ≤ 9 := by
                have h := nb_bd ((bI key).drop 16) (fun b hb => mem_of_U8s (U8s_bI key) b (List.mem_of_mem_drop hb))
                rw [show ((bI key).drop 16).length = 16 by rw [List.length_drop, bI_length, HK.out]] at h
                refine dg_len ?_
                have : (256 : Int) ^ 16 = ((256 ^ 16 : Nat) : Int) := by decide +kernel
                have h2 : 256 ^ 16 < 65536 ^ 9 := by decide +kernel
                omega
              have LS := Lib.hid lS
              clear hkk hRc hS hA lA lS
              go_wp2_with fail
              refine (of_calls (key.extract 16 32) (by simp; omega) wr).mono ?_
              rw [HS.out]
              rintro e w2 ⟨g2, c2, rfl, hD2, hb2⟩
              have HD2 := Lib.hid hD2; have HB2 := Lib.hid (HBB.out.trans (hb2.mono HBB.out.size)); have HA3 := Lib.hid (HA.out.on hb2)
              clear hD2 hb2
              go_wp2_with fail
              refine (add_calls A _ ga ca g2 c2 w2 HA3.out HD2.out (by have := LA.out; omega) (by have := LS.out; omega)).mono ?_
              rw [HA2.out]
              rintro e w3 ⟨g3, c3, rfl, hD3, hb3⟩
              have HD3 := Lib.hid hD3; have HB3 := Lib.hid (HB2.out.trans (hb3.mono HB2.out.size))
              clear hD3 hb3
              go_wp2_with fail
              refine (bytes_calls _ 16 g3 c3 (by decide) w3 HD3.out).mono ?_
              rw [show bytesN (polyN (bI key) (bI s)) 16 = polyI (bI key) (bI s) from rfl]
              rintro e w4 ⟨rfl, hb4⟩
              have HB4 := Lib.hid (HB3.out.trans (hb4.mono HB3.out.size))
              clear hb4
              go_wp2_with fail
              go_ret
              exact ⟨rfl, HB4.out⟩
end Go.Proofs.YtfoljmpphbhobaaDoor
