/- The walk of chacha.Block. -/
import Derived.Test.YtfoljmpphbhobaaDoorCha2
import Derived.Test.YtfoljmpphbhobaaDoorBase3
import Derived.LoopTactic
import Derived.Handy
import Derived.Laws.CopyRow
import Derived.Laws.Tables
import Derived.Deep.MidRow
namespace Go.Proofs.YtfoljmpphbhobaaDoor
open Go.RowKit Go.Spk
set_option linter.unusedVariables false
def beginI : List Int := [1634760805, 857760878, 2036477234, 1797285236]
def ordN : List Nat := [0, 4, 8, 12, 1, 5, 9, 13, 2, 6, 10, 14, 3, 7, 11, 15, 0, 5, 10, 15, 1, 6, 11, 12, 2, 7, 8, 13, 3, 4, 9, 14]
def onth (i : Nat) : Nat := ordN.getD i 0
theorem onth_lt (i : Nat) : onth i < 16 := by
  by_cases h : i < 32
  · revert i; decide
  · have : onth i = 0 := by simp [onth, ordN, List.getD, Nat.le_of_not_lt h]
    omega
def orderC : List Value := ordN.map fun (n : Nat) => Value.int .i64 (n : Int)
theorem order_at (j : Nat) (hj : j < 8) (w : World) : (Instr.index 81 (.agg orderC.toArray) (.int .i64 (j : Int))).run Tryd.prog w =
    .ok (.agg #[.int .i64 (onth (4 * j) : Nat), .int .i64 (onth (4 * j + 1) : Nat), .int .i64 (onth (4 * j + 2) : Nat), .int .i64 (onth (4 * j + 3) : Nat)]) w := by
  rcases (by omega : j = 0 ∨ j = 1 ∨ j = 2 ∨ j = 3 ∨ j = 4 ∨ j = 5 ∨ j = 6 ∨ j = 7) with rfl | rfl | rfl | rfl | rfl | rfl | rfl | rfl <;> kernel_rfl
/-- j quarter rounds of a double round. -/
def qrs (l : List Int) : Nat → List Int
  | 0 => l
  | j + 1 => qrI (qrs l j) (onth (4 * j)) (onth (4 * j + 1)) (onth (4 * j + 2)) (onth (4 * j + 3))
def rounds20 (l : List Int) : Nat → List Int
  | 0 => l
  | k + 1 => qrs (rounds20 l k) 8
theorem qrI_length (l : List Int) (a b c d : Nat) : (qrI l a b c d).length = l.length := by simp [qrI]
theorem qrs_length (l : List Int) (j : Nat) : (qrs l j).length = l.length := by
  induction j with
  | zero => rfl
  | succ j ih => rw [qrs, qrI_length, ih]
theorem rounds20_length (l : List Int) (k : Nat) : (rounds20 l k).length = l.length := by
  induction k with
  | zero => rfl
  | succ k ih => rw [rounds20, qrs_length, ih]
/-- The i-th word of a list of bytes. -/
def wordAt (ks : List Int) (i : Nat) : Int := word4 (ix ks (4 * i)) (ix ks (4 * i + 1)) (ix ks (4 * i + 2)) (ix ks (4 * i + 3))
/-- n words of ks, laid into l from place o on. -/
def fillW (ks : List Int) (o : Nat) (l : List Int) : Nat → List Int
  | 0 => l
  | n + 1 => (fillW ks o l n).set (o + n) (wordAt ks n)
theorem fillW_length (ks : List Int) (o : Nat) (l : List Int) (n : Nat) : (fillW ks o l n).length = l.length := by
  induction n with
  | zero => rfl
  | succ n ih => simp [fillW, ih]
/-- The first state: constants, key, counter, nonce. -/
def stateI (ks : List Int) (ctr : Int) (ns : List Int) : List Int := fillW ns 13 ((fillW ks 4 (beginI ++ List.replicate 12 0) 8).set 12 ctr) 3
/-- The n-th byte of the block: of the sum of the last state X and the first state A. -/
def byteAt (X A : List Int) (n : Nat) : Int := add32 (ix X (n / 4)) (ix A (n / 4)) / 2 ^ (8 * (n % 4)) % 256
def layB (X A : List Int) : Nat → List Int
  | 0 => List.replicate 64 0
  | n + 1 => (layB X A n).set n (byteAt X A n)
theorem layB_length (X A : List Int) (n : Nat) : (layB X A n).length = 64 := by
  induction n with
  | zero => rfl
  | succ n ih => simp [layB, ih]
theorem ix_layB (X A : List Int) (n i : Nat) (hi : i < n) (hn : n ≤ 64) : ix (layB X A n) i = byteAt X A i := by
  induction n with
  | zero => omega
  | succ n ih =>
    unfold layB
    rw [ix_set _ _ _ _ (by rw [layB_length]; omega)]
    by_cases e : i = n
    · rw [if_pos e, e]
    · rw [if_neg e, ih (by omega) (by omega)]
theorem layB_map (X A : List Int) : layB X A 64 = (List.range 64).map (byteAt X A) := by
  refine ix_ext (by rw [layB_length]; rfl) fun i hi => ?_
  rw [layB_length] at hi
  rw [ix_layB X A 64 i hi (Nat.le_refl _)]
  simp [ix, List.getD, hi]
def blockI (ks : List Int) (ctr : Int) (ns : List Int) : List Int := layB (rounds20 (stateI ks ctr ns) 10) (stateI ks ctr ns) 64
theorem blockI_def (ks : List Int) (ctr : Int) (ns : List Int) : blockI ks ctr ns = layB (rounds20 (stateI ks ctr ns) 10) (stateI ks ctr ns) 64 := rfl
theorem blockI_length (ks : List Int) (ctr : Int) (ns : List Int) : (blockI ks ctr ns).length = 64 := layB_length _ _ _
theorem rowI_one (k : IntKind) (ws : List Int) : (rowI k ws).all (·.oneCell') = true := by
  rw [Array.all_eq_true_iff_forall_mem]; intro v hv; simp [rowI] at hv; obtain ⟨a, _, rfl⟩ := hv; rfl
theorem byteAt_of (X A : List Int) (i k : Nat) (hk : k < 4) : byteAt X A (4 * i + k) = add32 (ix X i) (ix A i) / 2 ^ (8 * k) % 256 := by
  unfold byteAt
  rw [show (4 * i + k) / 4 = i by omega, show (4 * i + k) % 4 = k by omega]
set_option maxRecDepth 100000 in
set_option maxHeartbeats 1000000 in
theorem block_calls (ks ns : List Int) (ctr : Int) (hk : ks.length = 32) (hn : ns.length = 12) (bk : U8s ks) (bn : U8s ns) (w : World)
   (t0 : w.rangeAt 0 0 (beginI.map (Value.int .u32))) (t1 : w.rangeAt 1 0 orderC) :
    Calls Tryd.prog 14 #[.agg (rowI .u8 ks), .int .u32 ctr, .agg (rowI .u8 ns)] w fun e w' => e = .returned (.agg (rowI .u8 (blockI ks ctr ns))) ∧ Below w.heap.size w w' := by
  have T0 := Lib.hid t0; have T1 := Lib.hid t1; clear t0 t1
  have HK := Lib.hid hk; have HN := Lib.hid hn; clear hk hn
  go_enter Tryd.func14, Tryd.ntmps14
  go_wp2
  refine name_wp (fun W => Below w.heap.size w W ∧ Sz W (w.heap.size + 4) ∧ Whole W w.heap.size 22 (rowI .u8 ks) ∧ Whole W (w.heap.size + 1) 24 (rowI .u8 ns) ∧
     Whole W (w.heap.size + 1 + 1) 26 (rowI .u8 (List.replicate 64 0)) ∧ Whole W (w.heap.size + 1 + 1 + 1) 76 (rowI .u32 (List.replicate 16 0))) ?_ ?_
  · refine ⟨?_, ?_, ?_, ?_, ?_, ?_⟩
    · go_grown
    · exact ((((show Sz w w.heap.size from rfl).alloc _).alloc _).alloc _).alloc _
    · exact (((Whole.new rfl rfl).alloc _).alloc _).alloc _
    · exact ((Whole.new (by simp) rfl).alloc _).alloc _
    · exact (Whole.new (by simp) rfl).alloc _
    · exact Whole.new (by simp) rfl
  intro W0 ⟨hB0, hz0, hk0, hn0, ho0, ha0⟩
  have hsrc : ∀ j v, (beginI.map (Value.int .u32))[j]? = some v → W0.drew.cell? ((⟨0, 0, none⟩ : Addr).add j) = some v := by
    intro j v hv
    rw [Addr.add_mid]
    have h1 := T0.out j v hv
    have h2 := block_lt_of_cell h1
    exact (hB0.cell h2).trans h1
  have hc := run_copy_row (P := Tryd.prog) W0.drew 77 77 3 23 (w.heap.size + 1 + 1 + 1) 0 16 16 ⟨0, 0, none⟩ 4 4 (rowI .u32 (List.replicate 16 0)) 76 (beginI.map (Value.int .u32))
    (by kernel_rfl) (by kernel_rfl) ha0 rfl hsrc (by decide) (by decide)
  clear hsrc
  go_region
  go_wp2
  have ha1 : Whole (W0.drew.setRow (w.heap.size + 1 + 1 + 1) (List.map (Value.int .u32) beginI ++ List.drop beginI.length (rowI IntKind.u32 [0, 0, 0, 0, 0, 0, 0, 0, 0, 0, 0, 0, 0, 0, 0, 0]).toList).toArray) (w.heap.size + 1 + 1 + 1) 76 (rowI .u32 (beginI ++ List.replicate 12 0)) := Whole.row ha0
  refine name_wp (fun W => Below w.heap.size w W ∧ Sz W (w.heap.size + 4) ∧ Whole W w.heap.size 22 (rowI .u8 ks) ∧ Whole W (w.heap.size + 1) 24 (rowI .u8 ns) ∧
     Whole W (w.heap.size + 1 + 1) 26 (rowI .u8 (List.replicate 64 0)) ∧ Whole W (w.heap.size + 1 + 1 + 1) 76 (rowI .u32 (beginI ++ List.replicate 12 0))) ?_ ?_
  · have hO := only_trans (only_drawn (World.grownBy.refl W0 (some (w.heap.size + 1 + 1 + 1)))) (only_row W0.drew (w.heap.size + 1 + 1 + 1) (List.map (Value.int .u32) beginI ++ List.drop beginI.length (rowI IntKind.u32 [0, 0, 0, 0, 0, 0, 0, 0, 0, 0, 0, 0, 0, 0, 0, 0]).toList).toArray)
    refine ⟨?_, ?_, ?_, ?_, ?_, ha1⟩
    · exact hB0.grown hO (by unfold Sz at hz0; omega) (fun k hk => by injection hk with hk; omega)
    · exact hz0.drew.row _ _
    · exact hk0.only hO (ne_some (by omega))
    · exact hn0.only hO (ne_some (by omega))
    · exact ho0.only hO (ne_some (by omega))
  clear ha1 hc ha0 ho0 hn0 hk0 hB0 hz0 W0
  intro W1 ⟨hB1, hz1, hk1, hn1, ho1, ha1⟩
  go_loopw [20] (fun i wr => ∃ k : Nat, k ≤ 8 ∧ i = .int .i64 k ∧ Upd W1 wr (w.heap.size + 1 + 1 + 1) 76 .u32 (fillW ks 4 (beginI ++ List.replicate 12 0) k) ∧ Sz wr (w.heap.size + 4)) (fun i _ => 8 - (intOf i).toNat)
  case atStart => exact ⟨0, by omega, rfl, Upd.start ha1, hz1⟩
  case round =>
    obtain ⟨k, hk, rfl, U, hsz⟩ := hrel
    by_cases hlt : k < 8
    · have hkk := U.other hk1 (by omega)
      have c0 := hkk.int (4 * k) (by rw [HK.out]; omega)
      have c1 := hkk.int (4 * k + 1) (by rw [HK.out]; omega)
      have c2 := hkk.int (4 * k + 2) (by rw [HK.out]; omega)
      have c3 := hkk.int (4 * k + 3) (by rw [HK.out]; omega)
      have cs := U.cell (4 + k) (by rw [fillW_length]; simp [beginI]; omega)
      have fs := U.frozen (4 + k)
      have hs := slice_arr_from (P := Tryd.prog) Tryd.underlying22 (by kernel_rfl) w.heap.size (4 * k) (by omega) (4 * (k : Int)) (by omega)
      go_wp2_with (go_at_call 36; refine (word_calls _ _ _ _ _ _ _ _ (by omega) (Nat.le_refl _) (by unfold maxLen; omega) _ c0 c1 c2 c3 (bk _).1 (bk _).2 (bk _).1 (bk _).2 (bk _).1 (bk _).2 (bk _).1 (bk _).2).mono ?_; rintro e w' ⟨rfl, m, rfl⟩)
      go_roundw
      case rel => exact ⟨k + 1, by omega, by go_num, ((U.drewN m).set (4 + k) _), (hsz.drewN m).set _ _⟩
      case measure => simp [intOf]; omega
    · obtain rfl : k = 8 := by omega
      rw [show ((8 : Nat) : Int) = 8 from rfl]
      have c12 := U.cell 12 (by rw [fillW_length]; decide)
      have f12 := U.frozen 12
      go_wp2
      have U2 := U.set 12 ctr
      have z2 := hsz.set ⟨w.heap.size + 1 + 1 + 1, 12, none⟩ (.int .u32 ctr)
      go_loopw [33] (fun i wr => ∃ k : Nat, k ≤ 3 ∧ i = .int .i64 k ∧ Upd W1 wr (w.heap.size + 1 + 1 + 1) 76 .u32 (fillW ns 13 ((fillW ks 4 (beginI ++ List.replicate 12 0) 8).set 12 ctr) k) ∧ Sz wr (w.heap.size + 4)) (fun i _ => 3 - (intOf i).toNat)
      case atStart => exact ⟨0, by omega, rfl, U2, z2⟩
      case round =>
        clear U2 z2 c12 f12 U hsz
        obtain ⟨k, hk, rfl, U, hsz⟩ := hrel
        by_cases hlt : k < 3
        · have hkk := U.other hn1 (by omega)
          have c0 := hkk.int (4 * k) (by rw [HN.out]; omega)
          have c1 := hkk.int (4 * k + 1) (by rw [HN.out]; omega)
          have c2 := hkk.int (4 * k + 2) (by rw [HN.out]; omega)
          have c3 := hkk.int (4 * k + 3) (by rw [HN.out]; omega)
          have cs := U.cell (13 + k) (by rw [fillW_length, List.length_set, fillW_length]; simp [beginI]; omega)
          have fs := U.frozen (13 + k)
          have hs := slice_arr_from (P := Tryd.prog) Tryd.underlying24 (by kernel_rfl) (w.heap.size + 1) (4 * k) (by omega) (4 * (k : Int)) (by omega)
          go_wp2_with (go_at_call 36; refine (word_calls _ _ _ _ _ _ _ _ (by omega) (Nat.le_refl _) (by unfold maxLen; omega) _ c0 c1 c2 c3 (bn _).1 (bn _).2 (bn _).1 (bn _).2 (bn _).1 (bn _).2 (bn _).1 (bn _).2).mono ?_; rintro e w' ⟨rfl, m, rfl⟩)
          go_roundw
          case rel => exact ⟨k + 1, by omega, by go_num, ((U.drewN m).set (13 + k) _), (hsz.drewN m).set _ _⟩
          case measure => simp [intOf]; omega
        · obtain rfl : k = 3 := by omega
          rw [show ((3 : Nat) : Int) = 3 from rfl]
          have hl3 : (fillW ns 13 ((fillW ks 4 (beginI ++ List.replicate 12 0) 8).set 12 ctr) 3).length = 16 := by rw [fillW_length, List.length_set, fillW_length]; rfl
          obtain ⟨A3, hA3⟩ : ∃ A, A = fillW ns 13 ((fillW ks 4 (beginI ++ List.replicate 12 0) 8).set 12 ctr) 3 := ⟨_, rfl⟩
          rw [← hA3] at U hl3
          have HA3 := Lib.hid hA3
          clear hA3
          have hs16 : (Tryd.prog.info? 76).map (·.size) = some (rowI .u32 A3).size := by rw [rowI_size, hl3]; kernel_rfl
          have hb := U.blk
          have HS := Lib.hid hs16
          have HL := Lib.hid hl3
          clear hs16 hl3
          go_wp2_with (first
            | (refine wpList_load_row rfl 76 (.tmp 7) rfl _ rfl 76 (rowI .u32 A3) (0, 0) _ hb Tryd.underlying76 rfl HS.out ?_)
            | (refine wpList_store_row rfl 76 (.tmp 10) (.tmp 44) rfl wr.heap.size (rowI .u32 A3) rfl rfl 76 _ (heap_alloc_new _ _) HS.out (by rw [rowI_size, HL.out]; rfl) (rowI_one _ _) ?_))
          refine name_wp (fun W => Below w.heap.size w W ∧ Sz W (w.heap.size + 5) ∧ Whole W (w.heap.size + 1 + 1) 26 (rowI .u8 (List.replicate 64 0)) ∧
              Whole W (w.heap.size + 1 + 1 + 1) 76 (rowI .u32 A3) ∧ Whole W wr.heap.size 76 (rowI .u32 A3)) ?_ ?_
          · have hB3 := U.below hB1 (by omega) (by unfold Sz at hz1; omega)
            refine ⟨?_, (hsz.alloc _).row _ _, (((U.other ho1 (by omega)).alloc _).only (only_row _ _ _) (ne_some (by unfold Sz at hsz; omega))), ((U.blk.alloc _).only (only_row _ _ _) (ne_some (by unfold Sz at hsz; omega))), Whole.row (Whole.new (cs' := _) rfl rfl)⟩
            exact (hB3.alloc hB3.size _).grown (only_row _ _ _) (by simp; exact Nat.le_succ_of_le hB3.size) (fun k hk => by injection hk with hk; subst hk; exact hB3.size)
          generalize hgx : wr.heap.size = gx
          have hgx' : gx = w.heap.size + 4 := by rw [← hgx]; exact hsz
          have hg1 : w.heap.size + 1 + 1 + 1 < gx := by omega
          clear hgx' hgx hsz U hb
          intro W3 ⟨hB3, hz3, ho3, ha3, hx3⟩
          go_loopw [45] (fun i wr => ∃ k : Nat, k ≤ 10 ∧ i = .int .i64 k ∧ Upd W3 wr gx 76 .u32 (rounds20 A3 k)) (fun i _ => 10 - (intOf i).toNat)
          case atStart => exact ⟨0, by omega, rfl, Upd.start hx3⟩
          case round =>
            obtain ⟨k, hk, rfl, U⟩ := hrel
            by_cases hlt : k < 10
            · obtain ⟨wo, rfl⟩ : ∃ wo : World, wo = wr := ⟨_, rfl⟩
              have hBo := U.below hB3 (by omega) (by unfold Sz at hz3; omega)
              have hT1 := rangeAt_below T1.out hBo
              have HT := Lib.hid hT1
              clear hT1
              have HlA := rounds20_length A3 k
              rw [HL.out] at HlA
              obtain ⟨R, hR⟩ : ∃ R, R = rounds20 A3 k := ⟨_, rfl⟩
              rw [← hR] at U HlA
              have HR := Lib.hid hR
              have HlR := Lib.hid HlA
              clear HlA hR
              go_wp2_with (refine wpList_load_mid rfl 81 (.global 1) rfl 1 0 rfl orderC _ HT.out Tryd.underlying81 rfl (by kernel_rfl) ?_)
              go_loopw [48] (fun i wr => ∃ j : Nat, j ≤ 8 ∧ i = .int .i64 j ∧ Upd W3 wr gx 76 .u32 (qrs R j)) (fun i _ => 8 - (intOf i).toNat)
              case atStart => exact ⟨0, by omega, rfl, U⟩
              case round =>
                clear U
                obtain ⟨j, hj, rfl, U⟩ := hrel
                by_cases hltj : j < 8
                · have hix := fun wx => order_at j hltj wx
                  go_wp2_with (go_at_call 37; refine (quarter_calls _ (qrs R j) _ _ _ _ (by rw [qrs_length, HlR.out]) (onth_lt _) (onth_lt _) (onth_lt _) (onth_lt _) _ (U.blk.alloc _)).mono ?_; rintro e w' ⟨rfl, hU⟩)
                  go_roundw
                  case rel => exact ⟨j + 1, by omega, by go_num, ⟨only_trans (only_made U.only _) hU.only, hU.blk⟩⟩
                  case measure => simp [intOf]; omega
                · obtain rfl : j = 8 := by omega
                  go_wp2
                  go_roundw
                  case rel => exact ⟨k + 1, by omega, by go_num, by rw [rounds20, ← HR.out]; exact U⟩
                  case measure => simp [intOf]; omega
            · obtain rfl : k = 10 := by omega
              rw [show ((10 : Nat) : Int) = 10 from rfl]
              have HlX := rounds20_length A3 10
              rw [HL.out] at HlX
              obtain ⟨X, hX⟩ : ∃ R, R = rounds20 A3 10 := ⟨_, rfl⟩
              rw [← hX] at U HlX
              have HX := Lib.hid hX
              have HLX := Lib.hid HlX
              have ha4 := U.other ha3 (by omega)
              have ho4 := U.other ho3 (by omega)
              have hx4 := U.blk
              have hB4 := U.below hB3 (by omega) (by unfold Sz at hz3; omega)
              have hlt4 := hx4.inside
              clear HlX hX U hB3 hz3 ho3 ha3 hx3
              go_wp2_with fail
              refine name_wp (fun W => Below w.heap.size w W ∧ Whole W (w.heap.size + 1 + 1) 26 (rowI .u8 (List.replicate 64 0)) ∧
                  Whole W (w.heap.size + 1 + 1 + 1) 76 (rowI .u32 A3) ∧ Whole W gx 76 (rowI .u32 X) ∧ Whole W wr.heap.size 26 (rowI .u8 (List.replicate 64 0))) ?_ ?_
              · exact ⟨hB4.alloc hB4.size _, ho4.alloc _, ha4.alloc _, hx4.alloc _, Whole.new rfl rfl⟩
              generalize hgo : wr.heap.size = go at hlt4 ⊢
              clear hB4 ho4 ha4 hx4 hgo
              intro W5 ⟨hB5, hr5, ha5, hx5, ho5⟩
              go_loopw [62] (fun i wr => ∃ i' : Nat, i' ≤ 16 ∧ i = .int .i64 i' ∧ Upd W5 wr go 26 .u8 (layB X A3 (4 * i'))) (fun i _ => 16 - (intOf i).toNat)
              case atStart => exact ⟨0, by omega, rfl, Upd.start ho5⟩
              case round =>
                obtain ⟨i, hi, rfl, U⟩ := hrel
                by_cases hlti : i < 16
                · obtain ⟨wo, rfl⟩ : ∃ wo : World, wo = wr := ⟨_, rfl⟩
                  have ii : (i : Int) < 16 := by omega
                  have cA := (U.other ha5 (by omega)).int i (by rw [HL.out]; exact hlti)
                  have cX := (U.other hx5 (by omega)).int i (by rw [HLX.out]; exact hlti)
                  go_wp2_with fail
                  go_quiet (fail)
                  go_wp2_with fail
                  have U' := U.drewN nq
                  clear U cA cX
                  go_loopw [72] (fun t wr => ∃ k : Nat, k ≤ 4 ∧ t = .int .i64 k ∧ Upd W5 wr go 26 .u8 (layB X A3 (4 * i + k))) (fun i _ => 4 - (intOf i).toNat)
                  case atStart => exact ⟨0, by omega, rfl, U'⟩
                  case round =>
                    clear U'
                    obtain ⟨k, hk, rfl, U⟩ := hrel
                    by_cases hltk : k < 4
                    · have cO := U.cell (4 * i + k) (by rw [layB_length]; omega)
                      have fO := U.frozen (4 * i + k)
                      go_wp2_with fail
                      go_roundw
                      case rel => exact ⟨k + 1, by omega, by go_num, by rw [← Nat.add_assoc, layB, byteAt_of X A3 i k hltk]; exact U.set (4 * i + k) _⟩
                      case measure => simp [intOf]; omega
                    · obtain rfl : k = 4 := by omega
                      go_wp2
                      go_roundw
                      case rel => exact ⟨i + 1, by omega, by go_num, U⟩
                      case measure => simp [intOf]; omega
                · obtain rfl : i = 16 := by omega
                  have hB6 := U.below hB5 (by omega) hB5.size
                  have hr6 := U.other hr5 (by omega)
                  have ho6 := U.blk
                  have hres : layB X A3 (4 * 16) = blockI ks ctr ns := by rw [HX.out, HA3.out]; rfl
                  rw [hres] at ho6
                  have hl6 : (blockI ks ctr ns).length = 64 := layB_length _ _ _
                  obtain ⟨Z, hZ⟩ : ∃ Z, Z = blockI ks ctr ns := ⟨_, rfl⟩
                  rw [← hZ] at ho6 hl6
                  have HZ := Lib.hid hZ
                  have hs64 : (Tryd.prog.info? 26).map (·.size) = some (rowI .u8 Z).size := by rw [rowI_size, hl6]; kernel_rfl
                  have HS6 := Lib.hid hs64
                  have HL6 := Lib.hid hl6
                  clear hs64 hl6 hres U hZ
                  go_wp2_with (first
                    | (refine wpList_load_row rfl 26 (.tmp 13) rfl _ rfl 26 (rowI .u8 Z) (0, 0) _ ho6 Tryd.underlying26 rfl HS6.out ?_)
                    | (refine wpList_store_row rfl 26 (.tmp 6) (.tmp 87) rfl (w.heap.size + 1 + 1) (rowI .u8 Z) rfl rfl 26 _ hr6 HS6.out (by simp [rowI_size, HL6.out]) (rowI_one _ _) ?_))
                  refine bodyPost_ret (results_cell_row (fn := Tryd.f14) (p := 6) rfl _ _ (w.heap.size + 1 + 1) 26 (rowI .u8 Z) (0, 0) _ rfl (Whole.row hr6) Tryd.underlying26 rfl HS6.out) rfl ⟨by rw [HZ.out], ?_⟩
                  exact hB6.grown (only_row wr (w.heap.size + 1 + 1) _) hB6.size (fun k hk => by injection hk with hk; omega)
attribute [irreducible] blockI
end Go.Proofs.YtfoljmpphbhobaaDoor
