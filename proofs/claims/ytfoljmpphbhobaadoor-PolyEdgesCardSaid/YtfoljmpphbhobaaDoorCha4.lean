/- The walk of chacha.Xor. -/
import Derived.Test.YtfoljmpphbhobaaDoorCha3
namespace Go.Proofs.YtfoljmpphbhobaaDoor
open Go.RowKit Go.Spk
set_option linter.unusedVariables false
def x8 (a b : Int) : Int := bits .xor .u8 a b
theorem x8_eq (a b : Int) : bits .xor .u8 a b = x8 a b := rfl
theorem x8_0 (a b : Int) : 0 ≤ x8 a b ∧ x8 a b ≤ 255 := by
  unfold x8 bits
  rw [IntKind.wrap_u8']
  omega
/-- The byte n of the key stream. -/
def streamI (ks : List Int) (ctr : Int) (ns : List Int) (n : Nat) : Int := ix (blockI ks ((ctr + (n / 64 : Nat)) % 4294967296) ns) (n % 64)
/-- The list ws, of which the first n bytes are xored with the stream. -/
def xorT (ks : List Int) (ctr : Int) (ns : List Int) (ws : List Int) : Nat → List Int
  | 0 => ws
  | n + 1 => (xorT ks ctr ns ws n).set n (x8 (ix ws n) (streamI ks ctr ns n))
theorem xorT_length (ks ctr ns ws n) : (xorT ks ctr ns ws n).length = ws.length := by
  induction n with
  | zero => rfl
  | succ n ih => simp [xorT, ih]
theorem xorT_ahead (ks ctr ns ws) (n j : Nat) (h : n ≤ j) : ix (xorT ks ctr ns ws n) j = ix ws j := by
  induction n with
  | zero => rfl
  | succ n ih =>
    unfold xorT
    by_cases hl : n < (xorT ks ctr ns ws n).length
    · rw [ix_set _ _ _ _ hl, if_neg (by omega), ih (by omega)]
    · rw [List.set_eq_of_length_le (by omega), ih (by omega)]
theorem ix_xorT (ks ctr ns ws) (n i : Nat) (hn : n ≤ ws.length) (hi : i < n) : ix (xorT ks ctr ns ws n) i = x8 (ix ws i) (streamI ks ctr ns i) := by
  induction n with
  | zero => omega
  | succ n ih =>
    unfold xorT
    rw [ix_set _ _ _ _ (by rw [xorT_length]; omega)]
    by_cases e : i = n
    · subst e; rw [if_pos rfl]
    · rw [if_neg e, ih (by omega) (by omega)]
/-- All bytes xored. -/
def xorI (ks : List Int) (ctr : Int) (ns : List Int) (ws : List Int) : List Int := xorT ks ctr ns ws ws.length
set_option maxRecDepth 100000 in
set_option maxHeartbeats 1000000 in
theorem xor_calls (ks ns : List Int) (ctr : Int) (s : ByteArray) (hk : ks.length = 32) (hn : ns.length = 12) (bk : U8s ks) (bn : U8s ns) (hc0 : 0 ≤ ctr) (hc1 : ctr < 4294967296) (hs : s.size ≤ 1000000000000) (w : World)
   (t0 : w.rangeAt 0 0 (beginI.map (Value.int .u32))) (t1 : w.rangeAt 1 0 orderC) :
    Calls Tryd.prog 17 #[.agg (rowI .u8 ks), .int .u32 ctr, .agg (rowI .u8 ns), .string s] w
      fun e w' => e = .returned (.string (strOfNums (xorI ks ctr ns (bI s)))) ∧ Below w.heap.size w w' := by
  have T0 := Lib.hid t0; have T1 := Lib.hid t1; clear t0 t1
  have HK := Lib.hid hk; have HN := Lib.hid hn; clear hk hn
  have hcv := fun wx : World => run_bytes_of_string (P := Tryd.prog) wx 9 28 5 s Tryd.underlying9 Tryd.underlying28 Tryd.underlying5
  go_enter Tryd.func17, Tryd.ntmps17
  go_wp2_with fail
  have hcap := grownCap_ge ((w.alloc (Obj.cells (rowI IntKind.u8 ks) 22)).alloc (Obj.cells (rowI IntKind.u8 ns) 24)) s.size 0 5
  generalize grownCap ((w.alloc (Obj.cells (rowI IntKind.u8 ks) 22)).alloc (Obj.cells (rowI IntKind.u8 ns) 24)) s.size 0 5 = c at hcap ⊢
  obtain ⟨ws, hws⟩ : ∃ ws, ws = bI s ++ List.replicate (c - s.size) 0 := ⟨_, rfl⟩
  refine name_wp (fun W => Below w.heap.size w W ∧ Whole W w.heap.size 22 (rowI .u8 ks) ∧ Whole W (w.heap.size + 1) 24 (rowI .u8 ns) ∧
     ∃ m, Bys W (w.heap.size + 1 + 1) 5 m ws) ?_ ?_
  · refine ⟨?_, ?_, ?_, ?_⟩
    · go_grown
    · exact ((Whole.new rfl rfl).alloc _).alloc _
    · exact (Whole.new (by simp) rfl).alloc _
    · rw [hws]; exact ⟨_, Bys.made (by simp) s c _⟩
  intro W0 ⟨hB0, hk0, hn0, m, ho0⟩
  have hlw : ws.length = c := by rw [hws, List.length_append, bI_length, List.length_replicate]; omega
  have HW := Lib.hid hws
  have HLW := Lib.hid hlw
  clear hws hlw hcv
  go_loopw [1, 10] (fun c1 at1 wr => ∃ j : Nat, 64 * j < s.size + 64 ∧ at1 = .int .i64 (64 * (j : Int)) ∧ c1 = .int .u32 ((ctr + (j : Int)) % 4294967296) ∧ Below w.heap.size w wr ∧
     Whole wr w.heap.size 22 (rowI .u8 ks) ∧ Whole wr (w.heap.size + 1) 24 (rowI .u8 ns) ∧ Bys wr (w.heap.size + 1 + 1) 5 m (xorT ks ctr ns ws (min (64 * j) s.size)))
     (fun _ i _ => s.size - (intOf i).toNat)
  case atStart => exact ⟨0, by omega, rfl, by congr 1; omega, hB0, hk0, hn0, by rw [show min (64 * 0) s.size = 0 by omega]; exact ho0⟩
  case round =>
    clear hB0 hk0 hn0 ho0 W0
    obtain ⟨j, hj, rfl, rfl, hB, hkr, hnr, hor⟩ := hrel
    by_cases hlt : 64 * j < s.size
    · have hks := hkr.inside
      have hs1 : (Tryd.prog.info? 22).map (·.size) = some (rowI .u8 ks).size := by rw [rowI_size, HK.out]; kernel_rfl
      have hs2 : (Tryd.prog.info? 24).map (·.size) = some (rowI .u8 ns).size := by rw [rowI_size, HN.out]; kernel_rfl
      have H1 := Lib.hid hs1; have H2 := Lib.hid hs2
      clear hs1 hs2
      go_wp2_with (first
        | (refine wpList_load_row rfl 22 (.tmp 4) rfl _ rfl 22 (rowI .u8 ks) (0, 0) _ hkr Tryd.underlying22 rfl H1.out ?_)
        | (refine wpList_load_row rfl 24 (.tmp 6) rfl _ rfl 24 (rowI .u8 ns) (0, 0) _ hnr Tryd.underlying24 rfl H2.out ?_)
        | fail)
      refine (block_calls ks ns _ HK.out HN.out bk bn _ (rangeAt_below T0.out hB) (rangeAt_below T1.out hB)).mono ?_
      rintro e w1 ⟨rfl, hb1⟩
      obtain ⟨Z, hZ⟩ : ∃ Z, Z = blockI ks ((ctr + (j : Int)) % 4294967296) ns := ⟨_, rfl⟩
      have hZl : Z.length = 64 := by rw [hZ]; exact blockI_length _ _ _
      rw [← hZ]
      have HZ := Lib.hid hZ
      have hs3 : (Tryd.prog.info? 26).map (·.size) = some (rowI .u8 Z).size := by rw [rowI_size, hZl]; kernel_rfl
      have H3 := Lib.hid hs3; have HZL := Lib.hid hZl
      clear hs3 hZl hZ
      go_wp2_with (refine wpList_store_row rfl 26 (.tmp 11) (.tmp 24) rfl w1.heap.size (rowI .u8 Z) rfl rfl 26 _ (heap_alloc_new _ _) H3.out (by rw [rowI_size, HZL.out]; rfl) (rowI_one _ _) ?_)
      have hmin : min (64 * j) s.size = 64 * j := by omega
      rw [hmin] at hor
      clear hmin
      refine name_wp (fun W => Below w.heap.size w W ∧ Whole W w.heap.size 22 (rowI .u8 ks) ∧ Whole W (w.heap.size + 1) 24 (rowI .u8 ns) ∧
         Bys W (w.heap.size + 1 + 1) 5 m (xorT ks ctr ns ws (64 * j)) ∧ Whole W w1.heap.size 26 (rowI .u8 Z)) ?_ ?_
      · have h1 : Below w.heap.size w w1 := hB.trans (hb1.mono hB.size)
        have hg := hor.inside
        have hz := hb1.size
        refine ⟨(h1.alloc h1.size _).grown (only_row _ _ _) (by simp; exact Nat.le_succ_of_le h1.size) (fun k hk => by injection hk with hk; subst hk; exact h1.size), ?_, ?_, ?_, Whole.row (Whole.new (cs' := _) rfl rfl)⟩
        · exact ((hkr.below hb1 (by omega)).alloc _).only (only_row _ _ _) (ne_some (by omega))
        · exact ((hnr.below hb1 (by omega)).alloc _).only (only_row _ _ _) (ne_some (by omega))
        · exact ((hor.below hb1 hg).alloc _).other (only_row _ _ _) (ne_some (by omega))
      have hgb : w.heap.size + 1 + 1 < w1.heap.size := by have := hor.inside; have := hb1.size; omega
      generalize w1.heap.size = gb at hgb ⊢
      clear hb1 hkr hnr hor hB hks w1
      intro W2 ⟨hB2, hk2, hn2, ho2, hz2⟩
      go_loopw [12] (fun i wr => ∃ t : Nat, 64 * j ≤ t ∧ t ≤ s.size ∧ t ≤ 64 * j + 64 ∧ i = .int .i64 t ∧ W2.grownBy wr (some (w.heap.size + 1 + 1)) ∧ Bys wr (w.heap.size + 1 + 1) 5 m (xorT ks ctr ns ws t)) (fun i _ => s.size - (intOf i).toNat)
      case atStart => exact ⟨64 * j, by omega, by omega, by omega, by go_num, World.grownBy.refl _ _, ho2⟩
      case round =>
        obtain ⟨t, ht1, ht2, ht3, rfl, hO, hY⟩ := hrel
        by_cases hc : t < 64 * j + 64 ∧ t < s.size
        · obtain ⟨hc1, hc2⟩ := hc
          have hlx : (xorT ks ctr ns ws t).length = c := by rw [xorT_length, HLW.out]
          have cO := hY.cell t (by rw [hlx]; omega)
          rw [xorT_ahead _ _ _ _ _ _ (Nat.le_refl t)] at cO
          have fO := hY.frozen t (by rw [hlx]; omega)
          have cB := (hz2.only hO (ne_some (by omega))).int (t - 64 * j) (by rw [HZL.out]; omega)
          have ex := x8_eq
          have HLX := Lib.hid hlx
          have i1 : (0 : Int) ≤ (t : Int) - 64 * (j : Int) := by omega
          have i2 : (t : Int) - 64 * (j : Int) < 64 := by omega
          have i3 : (t : Int) < s.size := by omega
          have i4 : ((t : Int) - 64 * (j : Int)).toNat = t - 64 * j := by omega
          clear hlx
          have hst : x8 (ix ws t) (ix Z (t - 64 * j)) = x8 (ix ws t) (streamI ks ctr ns t) := by
            unfold streamI
            rw [show t / 64 = j by omega, show t % 64 = t - 64 * j by omega, ← HZ.out]
          have HST := Lib.hid hst
          clear hst
          go_wp2_with fail
          all_goals
            go_region
            go_wp2_with fail
            go_roundw
            case rel => exact ⟨t + 1, by omega, by omega, by omega, by go_num, only_trans (only_drawn hO) (only_stored _ rfl _), by rw [xorT, ← HST.out]; exact hY.drew.set t _⟩
            case measure => simp [intOf]; omega
        · have ht : t = min (64 * (j + 1)) s.size := by omega
          have hB3 := hB2.grown hO hB2.size (fun k hk => by injection hk with hk; omega)
          go_wp2_with fail
          all_goals
            go_roundw
            case rel =>
              refine ⟨j + 1, by omega, by go_num, by congr 1; omega, hB3, hk2.only hO (ne_some (by omega)), hn2.only hO (ne_some (by omega)), by rw [← ht]; exact hY⟩
            case measure => simp [intOf]; omega
    · have hmin : min (64 * j) s.size = s.size := by omega
      rw [hmin] at hor
      have hrun := fun D hD => run_convert_bytes_arg (P := Tryd.prog) wr 28 5 Tryd.underlying28 Tryd.underlying5 (w.heap.size + 1 + 1) 0 s.size c (xorI ks ctr ns (bI s)) (by rw [xorI, xorT_length, bI_length]) (fun i hi => by
        rw [Nat.zero_add, hor.cell i (by rw [xorT_length, HLW.out]; omega)]
        have e1 := ix_xorT ks ctr ns ws s.size i (by rw [HLW.out]; omega) hi
        have e2 := ix_xorT ks ctr ns (bI s) (bI s).length i (Nat.le_refl _) (by rw [bI_length]; exact hi)
        have e3 : ix ws i = ix (bI s) i := by rw [HW.out, ix_append_left _ _ _ (by rw [bI_length]; exact hi)]
        rw [e1, e3, ← e2]
        rfl) D hD
      have hr := hrun 9 Tryd.underlying9
      clear hrun hmin
      go_wp2
      go_ret
      exact ⟨rfl, hB⟩
theorem xorI_map (ks ctr ns ws) : xorI ks ctr ns ws = (List.range ws.length).map (fun n => x8 (ix ws n) (streamI ks ctr ns n)) := by
  unfold xorI
  refine ix_ext (by rw [xorT_length]; simp) fun i hi => ?_
  rw [xorT_length] at hi
  rw [ix_xorT _ _ _ _ _ _ (Nat.le_refl _) hi]
  simp [ix, List.getD, hi]
theorem xorI_length (ks ctr ns ws) : (xorI ks ctr ns ws).length = ws.length := by unfold xorI; exact xorT_length _ _ _ _ _
theorem ix_xorI (ks ctr ns ws) (i : Nat) (hi : i < ws.length) : ix (xorI ks ctr ns ws) i = x8 (ix ws i) (streamI ks ctr ns i) := by
  unfold xorI; exact ix_xorT _ _ _ _ _ _ (Nat.le_refl _) hi
attribute [irreducible] xorI
end Go.Proofs.YtfoljmpphbhobaaDoor
