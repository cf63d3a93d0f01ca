/- The walks of poly's Seal and of hmac's Same. -/
import Derived.Test.YtfoljmpphbhobaaDoorPol6
import Derived.Test.YtfoljmpphbhobaaDoorLaw3b
namespace Go.Proofs.YtfoljmpphbhobaaDoor
open Go.RowKit Go.Spk
set_option linter.unusedVariables false
set_option maxRecDepth 100000 in
set_option maxHeartbeats 2000000 in
theorem pseal_calls (ks ns : List Int) (text extra : ByteArray) (hk : ks.length = 32) (hn : ns.length = 12) (bk : U8s ks) (bn : U8s ns) (hs : text.size ≤ 1000000) (he : extra.size ≤ 1000000) (w : World)
   (t0 : w.rangeAt 0 0 (beginI.map (Value.int .u32))) (t1 : w.rangeAt 1 0 orderC) :
    Calls Tryd.prog 22 #[.agg (rowI .u8 ks), .agg (rowI .u8 ns), .string text, .string extra] w
      fun e w' => e = .returned (.string (strOfNums (sealI ks ns (bI text) (bI extra)))) ∧ Below w.heap.size w w' := by
  have T0 := Lib.hid t0; have T1 := Lib.hid t1; clear t0 t1
  have H1 := Lib.hid (show (Tryd.prog.info? 22).map (·.size) = some (rowI .u8 ks).size by rw [rowI_size, hk]; kernel_rfl)
  have H2 := Lib.hid (show (Tryd.prog.info? 24).map (·.size) = some (rowI .u8 ns).size by rw [rowI_size, hn]; kernel_rfl)
  have HK := Lib.hid hk; have HN := Lib.hid hn; have BK := Lib.hid bk; have BN := Lib.hid bn
  obtain ⟨X, hX⟩ : ∃ X, X = strOfNums (xorI ks 1 ns (bI text)) := ⟨_, rfl⟩
  have hXb : bI X = xorI ks 1 ns (bI text) := by rw [hX, bI_str (xorI_mem _ _ _ _)]
  have hXs : X.size = text.size := by rw [← bI_length, hXb, xorI_length, bI_length]
  obtain ⟨M, hM⟩ : ∃ M, M = strOfNums (markI ks ns (bI X) (bI extra)) := ⟨_, rfl⟩
  have hMs : M.size = 16 := by rw [hM, str_size, markI_length]
  have hall : X ++ M = strOfNums (sealI ks ns (bI text) (bI extra)) := by
    unfold sealI
    rw [str_cat, ← hX, ← hXb, ← hM]
  rw [← hall]
  have hc : X.size + M.size ≤ 9223372036854775807 := by omega
  have HX := Lib.hid hX; have HXS := Lib.hid hXs; have HM := Lib.hid hM; have HC := Lib.hid hc
  clear hk hn bk bn hX hXb hXs hM hMs hall hc
  have hk0 : Whole ((w.alloc (.cells (rowI .u8 ks) 22)).alloc (.cells (rowI .u8 ns) 24)) w.heap.size 22 (rowI .u8 ks) := (Whole.new rfl rfl).alloc _
  have hn0 : Whole ((w.alloc (.cells (rowI .u8 ks) 22)).alloc (.cells (rowI .u8 ns) 24)) (w.heap.size + 1) 24 (rowI .u8 ns) := Whole.new (by simp) rfl
  go_enter Tryd.func22, Tryd.ntmps22
  go_wp2_with (first
    | (refine wpList_load_row rfl 22 (.tmp 4) rfl _ rfl 22 (rowI .u8 ks) (0, 0) _ hk0 Tryd.underlying22 rfl H1.out ?_)
    | (refine wpList_load_row rfl 24 (.tmp 5) rfl _ rfl 24 (rowI .u8 ns) (0, 0) _ hn0 Tryd.underlying24 rfl H2.out ?_)
    | fail)
  have hB0 : Below w.heap.size w ((w.alloc (.cells (rowI .u8 ks) 22)).alloc (.cells (rowI .u8 ns) 24)) := by go_grown
  generalize hW : (w.alloc _).alloc _ = W0 at *
  have HB0 := Lib.hid hB0; have HK0 := Lib.hid hk0; have HN0 := Lib.hid hn0
  clear hW hk0 hn0 hB0
  refine (xor_calls ks ns 1 text HK.out HN.out BK.out BN.out (by decide) (by decide) (by omega) W0 (rangeAt_below T0.out HB0.out) (rangeAt_below T1.out HB0.out)).mono ?_
  rw [← HX.out]
  rintro e W1 ⟨rfl, hb1⟩
  have HB1 := Lib.hid (HB0.out.trans (hb1.mono HB0.out.size))
  have hk1 := HK0.out.below hb1 HK0.out.inside
  have hn1 := HN0.out.below hb1 HN0.out.inside
  clear hb1
  go_wp2_with (first
    | (refine wpList_load_row rfl 22 (.tmp 4) rfl _ rfl 22 (rowI .u8 ks) (0, 0) _ hk1 Tryd.underlying22 rfl H1.out ?_)
    | (refine wpList_load_row rfl 24 (.tmp 5) rfl _ rfl 24 (rowI .u8 ns) (0, 0) _ hn1 Tryd.underlying24 rfl H2.out ?_)
    | fail)
  clear hk1 hn1
  refine (pmark_calls ks ns X extra HK.out HN.out BK.out BN.out (by rw [HXS.out]; exact hs) he W1 (rangeAt_below T0.out HB1.out) (rangeAt_below T1.out HB1.out)).mono ?_
  rw [← HM.out]
  rintro e W2 ⟨rfl, hb2⟩
  have HB2 := Lib.hid (HB1.out.trans (hb2.mono HB1.out.size))
  have hc := HC.out
  clear hb2
  go_wp2_with fail
  go_ret
  exact ⟨rfl, HB2.out⟩
/-- The bits in which two strings part, put together. -/
def diffT (ps qs : List Int) : Nat → Nat
  | 0 => 0
  | k + 1 => diffT ps qs k ||| ((ix ps k).toNat ^^^ (ix qs k).toNat)
theorem diffT_lt (ps qs : List Int) (ha : U8s ps) (hb : U8s qs) (k : Nat) : diffT ps qs k < 256 := by
  induction k with
  | zero => simp [diffT]
  | succ k ih =>
    have h1 := ha k; have h2 := hb k
    have h3 : (ix ps k).toNat ^^^ (ix qs k).toNat < 2 ^ 8 := Nat.xor_lt_two_pow (by omega) (by omega)
    exact Nat.or_lt_two_pow (n := 8) ih h3
theorem diffT_zero (ps qs : List Int) (ha : U8s ps) (hb : U8s qs) (k : Nat) : diffT ps qs k = 0 ↔ ∀ i, i < k → ix ps i = ix qs i := by
  induction k with
  | zero => simp [diffT]
  | succ k ih =>
    rw [diffT, Nat.or_eq_zero_iff, ih]
    have h1 := ha k; have h2 := hb k
    constructor
    · rintro ⟨h, hx⟩ i hi
      by_cases e : i = k
      · subst e
        have h3 : ((ix ps i).toNat ^^^ (ix qs i).toNat) ^^^ (ix qs i).toNat = (ix ps i).toNat := by rw [Nat.xor_assoc, Nat.xor_self, Nat.xor_zero]
        rw [hx, Nat.zero_xor] at h3
        omega
      · exact h i (by omega)
    · intro h
      refine ⟨fun i hi => h i (by omega), ?_⟩
      rw [h k (by omega)]
      exact Nat.xor_self _
theorem same_iff (a b : ByteArray) (h : a.size = b.size) : (diffT (bI a) (bI b) a.size = 0) ↔ a = b := by
  rw [diffT_zero _ _ (U8s_bI a) (U8s_bI b)]
  constructor
  · intro hh
    exact bI_ext (ix_ext (by rw [bI_length, bI_length, h]) fun i hi => hh i (by rwa [bI_length] at hi))
  · intro e i hi
    rw [e]
set_option maxRecDepth 100000 in
set_option maxHeartbeats 2000000 in
theorem same_calls (a b : ByteArray) (ha : a.size ≤ 1000000000) (w : World) :
    Calls Tryd.prog 56 #[.string a, .string b] w fun e w' => e = .returned (.bool (decide (a = b))) ∧ ∃ m, w' = w.drewN m := by
  have gsa : ∀ (n : Nat) (h : n < a.size), ((a[n]'h).toNat : Int) = ix (bI a) n := fun n h => (ix_bI a n h).symm
  have gsb : ∀ (n : Nat) (h : n < b.size), ((b[n]'h).toNat : Int) = ix (bI b) n := fun n h => (ix_bI b n h).symm
  by_cases hl : a.size = b.size
  · obtain ⟨n, hn⟩ : ∃ n, n = a.size := ⟨_, rfl⟩
    have e : decide (a = b) = decide (diffT (bI a) (bI b) n = 0) := by
      rw [Bool.eq_iff_iff]; simp only [decide_eq_true_eq]; rw [hn]; exact (same_iff a b hl).symm
    rw [e]
    obtain ⟨R, hR⟩ : ∃ R, R = diffT (bI a) (bI b) n := ⟨_, rfl⟩
    rw [← hR]
    have HR := Lib.hid hR
    clear hR
    have hnb : n ≤ 1000000000 := by omega
    have za : a.size = n := hn.symm
    clear ha
    have zb : b.size = n := by omega
    clear e hn hl
    go_enter Tryd.func56, Tryd.ntmps56
    go_wp2_with fail
    go_loopw [5, 14] (fun x i wr => ∃ k m : Nat, k ≤ n ∧ i = .int .i64 k ∧ x = .int .u8 (diffT (bI a) (bI b) k : Nat) ∧ wr = w.drewN m) (fun _ i _ => n - (intOf i).toNat)
    case atStart => exact ⟨0, 0, by omega, rfl, rfl, rfl⟩
    case round =>
      obtain ⟨k, m, hk, rfl, rfl, rfl⟩ := hrel
      by_cases h1 : k < n
      · have i1 : (k : Int) < n := by omega
        have hua := U8s_bI a k; have hub := U8s_bI b k
        have hd := diffT_lt (bI a) (bI b) (U8s_bI a) (U8s_bI b) k
        have h3 : (ix (bI a) k).toNat ^^^ (ix (bI b) k).toNat < 256 := Nat.xor_lt_two_pow (n := 8) (by omega) (by omega)
        have hx := u8_xor (ix (bI a) k) (ix (bI b) k) (by omega) (by omega) (by omega) (by omega)
        have ho := u8_or_nat (diffT (bI a) (bI b) k) ((ix (bI a) k).toNat ^^^ (ix (bI b) k).toNat) hd h3
        change _ = ((diffT (bI a) (bI b) (k + 1) : Nat) : Int) at ho
        generalize (ix (bI a) k).toNat ^^^ (ix (bI b) k).toNat = x at hx ho
        clear h3 hua hub
        obtain ⟨d, hd1⟩ : ∃ d, d = diffT (bI a) (bI b) k := ⟨_, rfl⟩
        obtain ⟨d', hd2⟩ : ∃ d, d = diffT (bI a) (bI b) (k + 1) := ⟨_, rfl⟩
        rw [← hd1] at ho ⊢
        rw [← hd2] at ho
        have HD := Lib.hid hd2
        clear hd hd1 hd2
        go_wp2_with fail
        go_quiet (fail)
        go_wp2_with fail
        go_roundw
        case rel => exact ⟨k + 1, m + nq, by omega, by go_num, by rw [HD.out], rfl⟩
        case measure => simp [intOf]; omega
      · obtain rfl : k = n := by omega
        rw [← HR.out]
        by_cases h0 : R = 0
        · have HR0 := Lib.hid h0
          clear HR
          subst h0
          rw [show ((0 : Nat) : Int) = 0 from rfl]
          go_wp2_with fail
          go_ret
          exact ⟨by simp, m, rfl⟩
        · have hne : ((R : Int) == 0) = false := by
            have : ¬ (R : Int) = 0 := by omega
            simpa using this
          have hdd : decide (R = 0) = false := by simpa using h0
          have HDD := Lib.hid hdd
          clear hdd
          go_wp2_with fail
          go_ret
          exact ⟨by rw [HDD.out]; rfl, m, rfl⟩
  · have hne : decide (a = b) = false := by
      simp only [decide_eq_false_iff_not]
      intro e; exact hl (by rw [e])
    rw [hne]
    have i1 : ¬ (a.size : Int) = b.size := by omega
    clear ha hne hl gsa gsb
    go_enter Tryd.func56, Tryd.ntmps56
    go_wp2_with fail
    go_ret
    exact ⟨rfl, 0, rfl⟩
end Go.Proofs.YtfoljmpphbhobaaDoor
