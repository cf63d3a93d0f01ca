/- The walk of PacketTurned: it answers true. -/
import Derived.Test.YtfoljmpphbhobaaGreatDoorLaw12c
import Derived.Test.YtfoljmpphbhobaaGreatDoorRef12c
namespace Go.Proofs.YtfoljmpphbhobaaGreatDoor
open Go.RowKit Go.Spk
set_option linter.unusedVariables false
attribute [local go_sem ↓] Go.wp_at_zero Go.wp_at_succ
/-- What reading comes to. -/
theorem readI_cases (b : Bool) (ks : List Int) (n : Nat) (ws : List Int) :
    (∃ out rest, readI b ks n ws = (0, true, out, rest) ∧ rest = ws.drop (allR b (lenR ws)) ∧ out.length ≤ ws.length ∧ (U8s ws → U8s out)) ∨ readI b ks n ws = (0, false, [], ws) ∨ ∃ c : Nat, c < 20 ∧ readI b ks n ws = ((c : Int) + 1, false, [], []) := by
  unfold readI
  split
  · exact .inr (.inl rfl)
  · split
    · exact .inr (.inr ⟨3, by decide, rfl⟩)
    · split
      · exact .inr (.inr ⟨2, by decide, rfl⟩)
      · split
        · exact .inr (.inl rfl)
        · rename_i hw
          split
          · rename_i hc
            rcases bodyC_or b ks n (lenR ws) ws with h | h | h
            · exact absurd h hc
            · exact .inr (.inr ⟨1, by decide, by rw [h]; rfl⟩)
            · exact .inr (.inr ⟨4, by decide, by rw [h]; rfl⟩)
          · split
            · exact .inr (.inr ⟨2, by decide, rfl⟩)
            · refine .inl ⟨_, _, rfl, rfl, ?_, ?_⟩
              · rw [List.length_drop, List.length_take]
                have : (bodyR b ks n (lenR ws) ws).length ≤ ws.length := by
                  unfold bodyR rawR
                  cases b
                  · simp; omega
                  · simp only [if_true]
                    unfold openS
                    split
                    · simp
                    · split
                      · rw [xorI_length, List.length_take, List.length_take, List.length_drop]; omega
                      · simp
                omega
              · intro hu
                refine U8s_drop (U8s_take ?_ _) _
                unfold bodyR rawR
                cases b
                · exact U8s_take (U8s_drop hu _) _
                · simp only [if_true]
                  unfold openS
                  split
                  · exact U8s_of_mem (fun z hz => by cases hz)
                  · split
                    · exact U8s_of_mem (xorI_mem _ _ _ _)
                    · exact U8s_of_mem (fun z hz => by cases hz)
/-- A packet of which a byte behind its length is another one does not wait. -/
theorem turned_done (b : Bool) (ks : List Int) (n : Nat) (ws : List Int) (h1 : 1 ≤ ws.length) (hl : ws.length ≤ 32768) (i : Nat) (v : Int) (h4 : 4 ≤ i) (out rest : List Int) :
    readI b ks n ((packI b ks n ws).set i v) ≠ (0, false, out, rest) := by
  have h2 := padP_bd b ws.length
  have hlen : ((packI b ks n ws).set i v).length = allR b (ws.length + 1 + padP b ws.length) := by rw [List.length_set, packI_length]
  have hL : lenR ((packI b ks n ws).set i v) = ws.length + 1 + padP b ws.length := by
    have e : lenR ((packI b ks n ws).set i v) = lenR (packI b ks n ws) := by
      unfold lenR
      rw [numT_congr 4 (fun j hj => ?_)]
      by_cases hi : i < (packI b ks n ws).length
      · rw [ix_set _ _ _ _ hi, if_neg (by omega)]
      · rw [List.set_eq_of_length_le (by omega)]
    rw [e]
    exact lenR_pack b _ hl _
  unfold readI
  rw [hlen, hL, if_neg (by unfold allR; omega), if_neg (by omega), form_pack b _ h1, if_neg (by simp), if_neg (by omega)]
  split
  · rename_i hc
    intro e
    simp only [Prod.mk.injEq] at e
    exact hc e.1
  · split
    · intro e; simp at e
    · intro e; simp at e
theorem set_u8 {ks : List Int} (h : U8s ks) (i : Nat) (v : Int) (hv : 0 ≤ v ∧ v ≤ 255) : U8s (ks.set i v) := by
  intro j
  by_cases hi : i < ks.length
  · rw [ix_set _ _ _ _ hi]
    split
    · exact hv
    · exact h j
  · rw [List.set_eq_of_length_le (by omega)]
    exact h j
theorem turned_conv {W : World} {g m c : Nat} {xs : List Int} {Q : ByteArray} (hl : xs.length = m) (h : ∀ q, q < m → W.cell? ⟨g, 0 + q, none⟩ = some (.int .u8 (xs.getD q 0))) (hQ : strOfNums xs = Q) :
    (convert 33 9 (.slice (some ⟨g, 0, none⟩) m c)).run Tryz.prog W = .ok (.string Q) W := by
  rw [← hQ]
  exact run_convert_bytes_arg (P := Tryz.prog) W 33 5 Tryz.underlying33 Tryz.underlying5 g 0 m c xs hl h 9 Tryz.underlying9
set_option maxRecDepth 100000 in
set_option maxHeartbeats 8000000 in
theorem turned12_calls (key : List Int) (s0 : ByteArray) (at_ : Int) (hk : key.length = 32) (bk : U8s key) (E : Nat → Addr) (w : World) (hE : Errs w E)
   (t0 : w.rangeAt 21 0 (beginI.map (Value.int .u32))) (t1 : w.rangeAt 22 0 orderC) :
    Calls Tryz.prog 4 #[.agg (rowI .u8 key), .string s0, .int .i64 at_] w fun e w' => e = .returned (.bool true) ∧ Below w.heap.size w w' := by
  have T0 := Lib.hid t0; have T1 := Lib.hid t1; have HE := Lib.hid hE
  have H1 := Lib.hid (show (Tryz.prog.info? 25).map (·.size) = some (rowI .u8 key).size by rw [rowI_size, hk]; kernel_rfl)
  have HK := Lib.hid hk; have BK := Lib.hid bk
  clear t0 t1 hE hk bk
  go_enter Tryz.func4, Tryz.ntmps4
  go_wp2_with fail
  generalize hW : w.alloc _ = W0
  have hF0 : Below w.heap.size w W0 ∧ Whole W0 w.heap.size 25 (rowI .u8 key) := by
    subst hW; exact ⟨by go_grown, Whole.new rfl rfl⟩
  have HF0 := Lib.hid hF0
  clear hW hF0
  refine (awake12_calls E W0 (HE.out.below HF0.out.1).four (rangeAt_below T0.out HF0.out.1) (rangeAt_below T1.out HF0.out.1)).mono ?_
  rintro e W1 ⟨rfl, hb1⟩
  have HF1 := Lib.hid (And.intro (HF0.out.1.trans (hb1.mono HF0.out.1.size)) (HF0.out.2.below hb1 HF0.out.2.inside))
  clear hb1
  go_wp2_with fail
  refine (cut_calls s0 40 (by decide) _).mono ?_
  rintro e wr' ⟨⟨s, rfl, hcut, hsz⟩, rfl⟩
  have hcat : (ByteArray.mk #[112]).size + s.size ≤ 9223372036854775807 := by show 1 + s.size ≤ _; omega
  obtain ⟨p, hp⟩ : ∃ p, p = ByteArray.mk #[112] ++ s := ⟨_, rfl⟩
  have HPS := Lib.hid (show 1 ≤ p.size ∧ p.size ≤ 41 by rw [hp, ByteArray.size_append]; show 1 ≤ 1 + s.size ∧ 1 + s.size ≤ 41; omega)
  have HPE := Lib.hid hp.symm
  clear hcut hp
  obtain ⟨gw, hgw⟩ : ∃ gw, gw = W1.heap.size := ⟨_, rfl⟩
  have hr1 : Whole (W1.alloc (.cells (lineRow 0 false z32 ++ #[]) 29)) w.heap.size 25 (rowI .u8 key) := HF1.out.2.alloc _
  go_wp2_with (first
    | (refine wpList_load_row rfl 25 (.tmp 3) rfl _ rfl 25 (rowI .u8 key) (0, 0) _ hr1 Tryz.underlying25 rfl H1.out ?_)
    | fail)
  clear hcat hsz hr1
  rw [HPE.out, ← hgw]
  generalize hW : W1.alloc _ = W2
  have HT2 := Lib.hid (show One w W2 gw 0 false z32 ∧ Whole W2 w.heap.size 25 (rowI .u8 key) ∧ w.heap.size < gw by
    subst hW; subst hgw
    exact ⟨One.new HF1.out.1, HF1.out.2.alloc _, HF1.out.2.inside⟩)
  clear hW hgw
  refine (wseal_calls gw 0 false z32 key _ #[] z32_len HK.out W2 HT2.out.1.wr).mono ?_
  rintro e W3 ⟨rfl, h3, g3⟩
  have HT3 := Lib.hid (And.intro (HT2.out.1.to h3 g3 HK.out BK.out) (HT2.out.2.1.only g3 (ne_some (Nat.ne_of_lt HT2.out.2.2))))
  clear h3 g3
  go_wp2_with fail
  obtain ⟨P, hP⟩ : ∃ P, P = strOfNums (packI true key 0 (bI p)) := ⟨_, rfl⟩
  have HP := Lib.hid hP
  have HPZ := Lib.hid (show P.size ≤ 132 ∧ 9 ≤ P.size by
    have hb := padP_bd true p.size
    have h1 := HPS.out
    rw [hP, str_size, packI_length, bI_length]
    unfold allR tagN
    simp only [if_true]
    omega)
  refine (pack_calls gw 0 true key p HK.out BK.out HPS.out.1 (by have := HPS.out; omega) (by decide) W3 HT3.out.1.wr (rangeAt_below T0.out HT3.out.1.below) (rangeAt_below T1.out HT3.out.1.below)).mono ?_
  rw [← hP]
  rintro e W4 ⟨rfl, h4, g4⟩
  have HF4 := Lib.hid (And.intro (HT3.out.1.to h4 g4 HK.out BK.out).below (HT3.out.2.only g4 (ne_some (Nat.ne_of_lt HT2.out.2.2))))
  clear h4 g4 hP
  have hcv := fun wx : World => run_bytes_of_string (P := Tryz.prog) wx 9 33 5 P Tryz.underlying9 Tryz.underlying33 Tryz.underlying5
  obtain ⟨a, ha, ea⟩ := and_low at_ 65535 (by decide)
  rw [show ((65535 : Nat) : Int) = 65535 from rfl] at ea
  have hps := HPZ.out.1
  have hps9 := HPZ.out.2
  have hnz : ¬ (P.size : Int) * 8 = 0 := by omega
  obtain ⟨kk, hkk⟩ : ∃ kk, kk = a % (P.size * 8) := ⟨_, rfl⟩
  have hrem : Int.tmod (a : Int) ((P.size : Int) * 8) = (kk : Int) := by
    rw [hkk, show (P.size : Int) * 8 = ((P.size * 8 : Nat) : Int) by omega]
    exact (Int.ofNat_tmod _ _).symm
  have hkb : kk < P.size * 8 := by rw [hkk]; exact Nat.mod_lt _ (by omega)
  have HKB := Lib.hid hkb
  clear hkk
  go_wp2_with fail
  clear hcv hrem hnz ea ha
  have hcap := grownCap_ge W4 P.size 0 5
  generalize grownCap W4 P.size 0 5 = c at hcap ⊢
  obtain ⟨gb, hgb⟩ : ∃ gb, gb = W4.heap.size := ⟨_, rfl⟩
  rw [← hgb]
  generalize hW : World.drew _ = W5
  have hF5 : Below w.heap.size w W5 ∧ Whole W5 w.heap.size 25 (rowI .u8 key) ∧ Bys W5 gb 5 (bytesRow P c).size (bI P ++ List.replicate (c - P.size) 0) ∧ w.heap.size < gb := by
    subst hW; subst hgb
    exact ⟨below_drawnN (HF4.out.1.alloc HF4.out.1.size _) 1, (HF4.out.2.alloc _).drew, (Bys.made rfl P c 5).drew, HF4.out.2.inside⟩
  obtain ⟨i8, hi8⟩ : ∃ i8, i8 = kk / 8 := ⟨_, rfl⟩
  obtain ⟨j8, hj8⟩ : ∃ j8, j8 = kk % 8 := ⟨_, rfl⟩
  have hq : (kk : Int) / 8 = (i8 : Int) := by omega
  have hr : (kk : Int) % 8 = (j8 : Int) := by omega
  have hib : i8 < P.size := by omega
  have hibI : (i8 : Int) < P.size := by omega
  have hj7 : (j8 : Int) ≤ 7 := by omega
  have hkI : (kk : Int) ≤ 100000 := by omega
  have hlen : (bI P ++ List.replicate (c - P.size) 0).length = c := by simp [bI_length]; omega
  have hcell := hF5.2.2.1.cell i8 (by rw [hlen]; omega)
  have hfro := hF5.2.2.1.frozen i8 (by rw [hlen]; omega)
  have HF5 := Lib.hid hF5; have HI8 := Lib.hid hi8
  clear hF5 hW hlen hgb hi8 hj8 hkb
  go_region
  obtain ⟨xs, hxs⟩ : ∃ xs, xs = (bI P).set i8 (bits .xor .u8 (ix (bI P ++ List.replicate (c - P.size) 0) i8) (2 ^ j8 % 256)) := ⟨_, rfl⟩
  have hxl : xs.length = P.size := by rw [hxs, List.length_set, bI_length]
  have hxu : U8s xs := by rw [hxs]; exact set_u8 (U8s_bI P) _ _ (x8_0 _ _)
  generalize hW : World.drew _ = W6
  have hF6 : Below w.heap.size w W6 ∧ Whole W6 w.heap.size 25 (rowI .u8 key) ∧ (∀ q, q < P.size → W6.cell? ⟨gb, 0 + q, none⟩ = some (.int .u8 (xs.getD q 0))) := by
    subst hW
    have hs := HF5.out.2.2.1.set i8 (bits .xor .u8 (ix (bI P ++ List.replicate (c - P.size) 0) i8) (2 ^ j8 % 256))
    rw [List.set_append_left _ _ (by rw [bI_length]; exact hib), ← hxs] at hs
    exact ⟨below_drawnN (below_some HF5.out.1 (only_stored (g := gb) _ rfl _) (Nat.le_of_lt HF5.out.2.2.2)) 1, (HF5.out.2.1.elsewhere _ (by show gb ≠ w.heap.size; have := HF5.out.2.2.2; omega) _).drew, bys_reads hs.drew _ hxl⟩
  obtain ⟨Q, hQ⟩ : ∃ Q, Q = strOfNums xs := ⟨_, rfl⟩
  have HQE := Lib.hid hQ.symm
  have HQB := Lib.hid (show bI Q = xs by rw [hQ, bI_str (mem_of_U8s hxu)])
  have HQS := Lib.hid (show Q.size = P.size by rw [hQ, str_size, hxl])
  have HXS := Lib.hid hxs; have HXL := Lib.hid hxl
  have HF6 := Lib.hid hF6
  have HGB := Lib.hid (block_lt_of_cell (hF6.2.2 0 (by omega)))
  clear hW hF6 hxs hxl hxu hQ hcell hfro hq hr hj7
  obtain ⟨gr, hgr⟩ : ∃ gr, gr = W6.heap.size := ⟨_, rfl⟩
  have hr6 : Whole (W6.alloc (.cells (lineRow 0 false z32 ++ #[.string ⟨#[]⟩, .nilIface]) 44)) w.heap.size 25 (rowI .u8 key) := HF6.out.2.1.alloc _
  go_wp2_with (first
    | (refine wpList_load_row rfl 25 (.tmp 3) rfl _ rfl 25 (rowI .u8 key) (0, 0) _ hr6 Tryz.underlying25 rfl H1.out ?_)
    | fail)
  clear hr6
  rw [← hgr]
  generalize hW : W6.alloc _ = W7
  have HF7 := Lib.hid (show Below w.heap.size w W7 ∧ Whole W7 w.heap.size 25 (rowI .u8 key) ∧ (∀ q, q < P.size → W7.cell? ⟨gb, 0 + q, none⟩ = some (.int .u8 (xs.getD q 0))) ∧ Whole W7 gr 44 (lineRow 0 false z32 ++ #[.string ⟨#[]⟩, .nilIface]) ∧ w.heap.size < gr ∧ gb < gr by
    subst hW; subst hgr
    exact ⟨HF6.out.1.alloc HF6.out.1.size _, HF6.out.2.1.alloc _, fun q hq => (World.cell?_alloc_lt W6 _ ⟨gb, 0 + q, none⟩ HGB.out).trans (HF6.out.2.2 q hq), Whole.new rfl reader_new, HF6.out.2.1.inside, HGB.out⟩)
  clear hW hgr
  refine (ropenR_calls gr 0 false z32 key _ _ z32_len HK.out W7 HF7.out.2.2.2.1).mono ?_
  rintro e W8 ⟨rfl, h8, g8⟩
  have hkeep : ∀ A B : World, A.grownBy B (some gr) → (Below w.heap.size w A ∧ Whole A w.heap.size 25 (rowI .u8 key) ∧ (∀ q, q < P.size → A.cell? ⟨gb, 0 + q, none⟩ = some (.int .u8 (xs.getD q 0)))) →
      (Below w.heap.size w B ∧ Whole B w.heap.size 25 (rowI .u8 key) ∧ (∀ q, q < P.size → B.cell? ⟨gb, 0 + q, none⟩ = some (.int .u8 (xs.getD q 0)))) := fun A B g h =>
    ⟨below_some h.1 g (Nat.le_of_lt HF7.out.2.2.2.2.1), h.2.1.only g (ne_some (Nat.ne_of_lt HF7.out.2.2.2.2.1)), fun q hq => (World.cell?_of_block (g.block gb (block_lt_of_cell (h.2.2 q hq)) (ne_some (Nat.ne_of_lt HF7.out.2.2.2.2.2)))).trans (h.2.2 q hq)⟩
  have HKP := Lib.hid hkeep
  have HF8 := Lib.hid (And.intro (hkeep _ _ g8 ⟨HF7.out.1, HF7.out.2.1, HF7.out.2.2.1⟩) h8)
  clear h8 g8 hkeep
  have hcz := turned_conv HXL.out HF8.out.1.2.2 HQE.out (c := c)
  go_wp2_with fail
  clear hcz
  refine (feed_w gr 0 true key ⟨#[]⟩ HK.out W8 HF8.out.2 Q (by rw [HQS.out]; show 0 + P.size ≤ _; omega)).mono ?_
  rw [nil_cat]
  rintro e W9 ⟨rfl, h9, g9⟩
  have HF9 := Lib.hid (And.intro (HKP.out _ _ g9 HF8.out.1) h9)
  clear h9 g9
  go_wp2_with fail
  have hE9 := HE.out.below HF9.out.1.1
  have HE9 := Lib.hid hE9
  clear hE9
  rcases readI_cases true key 0 (bI Q) with ⟨out, rest, hri, _, _, hou⟩ | hri | ⟨ec, hec, hri⟩
  · have HRI := Lib.hid hri
    refine (next_yes gr 0 true key Q E HK.out BK.out (by decide) (by rw [HQS.out]; omega) W9 HE9.out.four HF9.out.2 (rangeAt_below T0.out HF9.out.1.1) (rangeAt_below T1.out HF9.out.1.1) out rest hri).mono ?_
    rintro e W10 ⟨rfl, h10, g10⟩
    have HF10 := Lib.hid (HKP.out _ _ g10 HF9.out.1)
    obtain ⟨O, hO⟩ : ∃ O, O = strOfNums out := ⟨_, rfl⟩
    obtain ⟨RS, hRS⟩ : ∃ RS, RS = strOfNums rest := ⟨_, rfl⟩
    have HRV := Lib.hid (show readV (0, true, out, rest) = .tuple #[.string O, .string RS, .bool true, .int .i64 0] by rw [hO, hRS]; rfl)
    rw [← hO]
    clear h10 g10 hri hou hO hRS
    go_wp2_with fail
    refine wp_region_class (fun W => Below W10.heap.size W10 W) (by kernel_rfl) (by kernel_rfl) (below_drawnN (Below.refl _ _) 1) ?_
    refine wpQuiet_step (fun K hK => ?_)
    refine quiet_want (by kernel_rfl) ⟨(.slice (some ⟨gb, 0, none⟩) P.size c), fun W hW => ?_, ?_⟩
    · refine quietAt_val ?_
      go_simp
    go_simp
    refine hK _ ?_
    clear hK K
    refine wpQuiet_step (fun K hK => ?_)
    refine quiet_want (by kernel_rfl) ⟨(.string Q), fun W hW => ?_, ?_⟩
    · refine quietAt_val ?_
      have hcz := turned_conv HXL.out (fun q hq => (hW.cell (p := ⟨gb, 0 + q, none⟩) (block_lt_of_cell (HF10.out.2.2 q hq))).trans (HF10.out.2.2 q hq)) HQE.out (c := c)
      go_simp
    go_simp
    refine hK _ ?_
    clear hK K
    refine wpQuiet_step (fun K hK => ?_)
    refine quiet_want (by kernel_rfl) ⟨(.slice (some ⟨w.heap.size, 0, none⟩) 32 32), fun W hW => ?_, ?_⟩
    · refine quietAt_val ?_
      go_simp
    go_simp
    refine hK _ ?_
    clear hK K
    refine wpQuiet_step (fun K hK => ?_)
    refine quiet_want (by kernel_rfl) ⟨(.string (strOfNums key)), fun W hW => ?_, ?_⟩
    · refine quietAt_val ?_
      have hrun := run_convert_bytes_arg (P := Tryz.prog) W 33 5 Tryz.underlying33 Tryz.underlying5 w.heap.size 0 32 32 key HK.out (fun q hq => by rw [Nat.zero_add, (HF10.out.2.1.below hW HF10.out.2.1.inside).int q (by rw [HK.out]; exact hq)]; rfl) 9 Tryz.underlying9
      go_simp
    go_simp
    refine hK _ ?_
    clear hK K
    refine wpQuiet_step (fun K hK => ?_)
    refine quiet_want (by kernel_rfl) ⟨(.tuple #[(.string O), (.string RS), .bool true, .int .i64 0]), fun W hW => ?_, ?_⟩
    · refine quietAt_call (f := 17) (args := (#[.string Q, .string (strOfNums key), .int .i64 0])) (by go_simp) ?_
      refine (rread_calls true key 0 Q HK.out BK.out (by decide) (by have := HQS.out; omega) W _ HRI.out).mono ?_
      rintro e W' ⟨rfl, hb⟩
      exact ⟨by rw [HRV.out], hW.trans (hb.mono hW.size)⟩
    go_simp
    refine hK _ ?_
    clear hK K
    refine wpQuiet_step (fun K hK => ?_)
    refine quiet_want (by kernel_rfl) ⟨(.tuple #[(.string O), (.string RS), .bool true, .int .i64 0]), fun W hW => ?_, ?_⟩
    · refine quietAt_val ?_
      go_simp
    go_simp
    refine hK _ ?_
    clear hK K
    refine wpQuiet_step (fun K hK => ?_)
    refine quiet_want (by kernel_rfl) ⟨(.string O), fun W hW => ?_, ?_⟩
    · refine quietAt_val ?_
      go_simp
    go_simp
    refine hK _ ?_
    clear hK K
    refine wpQuiet_step (fun K hK => ?_)
    refine quiet_want (by kernel_rfl) ⟨(.string RS), fun W hW => ?_, ?_⟩
    · refine quietAt_val ?_
      go_simp
    go_simp
    refine hK _ ?_
    clear hK K
    refine wpQuiet_step (fun K hK => ?_)
    refine quiet_want (by kernel_rfl) ⟨(.bool true), fun W hW => ?_, ?_⟩
    · refine quietAt_val ?_
      go_simp
    go_simp
    refine hK _ ?_
    clear hK K
    refine wpQuiet_step (fun K hK => ?_)
    refine quiet_want (by kernel_rfl) ⟨(.int .i64 0), fun W hW => ?_, ?_⟩
    · refine quietAt_val ?_
      go_simp
    go_simp
    refine hK _ ?_
    clear hK K
    refine wpQuiet_step (fun K hK => ?_)
    refine quiet_want (by kernel_rfl) ⟨(.string O), fun W hW => ?_, ?_⟩
    · refine quietAt_val ?_
      go_simp
    go_simp
    refine hK _ ?_
    clear hK K
    refine wpQuiet_step (fun K hK => ?_)
    refine quiet_want (by kernel_rfl) ⟨(.string RS), fun W hW => ?_, ?_⟩
    · refine quietAt_val ?_
      go_simp
    go_simp
    refine hK _ ?_
    clear hK K
    refine wpQuiet_step (fun K hK => ?_)
    refine quiet_want (by kernel_rfl) ⟨(.bool true), fun W hW => ?_, ?_⟩
    · refine quietAt_val ?_
      go_simp
    go_simp
    refine hK _ ?_
    clear hK K
    refine wpQuiet_step (fun K hK => ?_)
    refine quiet_want (by kernel_rfl) ⟨(.int .i64 0), fun W hW => ?_, ?_⟩
    · refine quietAt_val ?_
      go_simp
    go_simp
    refine hK _ ?_
    clear hK K
    refine wpQuiet_nil ?_
    intro W11 hB11
    have HB11 := Lib.hid hB11
    have HBW := Lib.hid (HF10.out.1.trans (hB11.mono HF10.out.1.size))
    clear hB11
    go_wp2_with fail
    refine (code_nil _).mono ?_
    rintro e w5 ⟨rfl, rfl⟩
    go_wp2_with fail
    go_ret
    exact ⟨rfl, HBW.out⟩
  · have HRI := Lib.hid hri
    refine (next_no gr 0 true key Q E HK.out BK.out (by decide) (by rw [HQS.out]; omega) W9 HE9.out.four HF9.out.2 (rangeAt_below T0.out HF9.out.1.1) (rangeAt_below T1.out HF9.out.1.1) _ _ hri).mono ?_
    rintro e W10 ⟨rfl, hb10⟩
    have HF10 := Lib.hid (show Below w.heap.size w W10 ∧ Whole W10 w.heap.size 25 (rowI .u8 key) ∧ (∀ q, q < P.size → W10.cell? ⟨gb, 0 + q, none⟩ = some (.int .u8 (xs.getD q 0))) from
      ⟨HF9.out.1.1.trans (hb10.mono HF9.out.1.1.size), HF9.out.1.2.1.below hb10 HF9.out.1.2.1.inside, fun q hq => (hb10.cell (p := ⟨gb, 0 + q, none⟩) (block_lt_of_cell (HF9.out.1.2.2 q hq))).trans (HF9.out.1.2.2 q hq)⟩)
    obtain ⟨RS, hRS⟩ : ∃ RS, RS = strOfNums (bI Q) := ⟨_, rfl⟩
    have HRV := Lib.hid (show readV (0, false, [], bI Q) = .tuple #[.string ⟨#[]⟩, .string RS, .bool false, .int .i64 0] by rw [hRS]; rfl)
    have k32 : (kk : Int) < 32 := by
      have h4 : i8 < 4 := by
        refine Nat.lt_of_not_le fun h4 => ?_
        have e1 : bI P = packI true key 0 (bI p) := by rw [HP.out, bI_str (packI_mem true key 0 _ (U8s_bI p))]
        rw [HQB.out, HXS.out, e1] at hri
        exact turned_done true key 0 (bI p) (by rw [bI_length]; exact HPS.out.1) (by rw [bI_length]; have := HPS.out; omega) i8 _ h4 _ _ hri
      have := HI8.out
      omega
    clear hb10 hri hRS
    go_wp2_with fail
    refine wp_region_class (fun W => Below W10.heap.size W10 W) (by kernel_rfl) (by kernel_rfl) (below_drawnN (Below.refl _ _) 1) ?_
    refine wpQuiet_step (fun K hK => ?_)
    refine quiet_want (by kernel_rfl) ⟨(.slice (some ⟨gb, 0, none⟩) P.size c), fun W hW => ?_, ?_⟩
    · refine quietAt_val ?_
      go_simp
    go_simp
    refine hK _ ?_
    clear hK K
    refine wpQuiet_step (fun K hK => ?_)
    refine quiet_want (by kernel_rfl) ⟨(.string Q), fun W hW => ?_, ?_⟩
    · refine quietAt_val ?_
      have hcz := turned_conv HXL.out (fun q hq => (hW.cell (p := ⟨gb, 0 + q, none⟩) (block_lt_of_cell (HF10.out.2.2 q hq))).trans (HF10.out.2.2 q hq)) HQE.out (c := c)
      go_simp
    go_simp
    refine hK _ ?_
    clear hK K
    refine wpQuiet_step (fun K hK => ?_)
    refine quiet_want (by kernel_rfl) ⟨(.slice (some ⟨w.heap.size, 0, none⟩) 32 32), fun W hW => ?_, ?_⟩
    · refine quietAt_val ?_
      go_simp
    go_simp
    refine hK _ ?_
    clear hK K
    refine wpQuiet_step (fun K hK => ?_)
    refine quiet_want (by kernel_rfl) ⟨(.string (strOfNums key)), fun W hW => ?_, ?_⟩
    · refine quietAt_val ?_
      have hrun := run_convert_bytes_arg (P := Tryz.prog) W 33 5 Tryz.underlying33 Tryz.underlying5 w.heap.size 0 32 32 key HK.out (fun q hq => by rw [Nat.zero_add, (HF10.out.2.1.below hW HF10.out.2.1.inside).int q (by rw [HK.out]; exact hq)]; rfl) 9 Tryz.underlying9
      go_simp
    go_simp
    refine hK _ ?_
    clear hK K
    refine wpQuiet_step (fun K hK => ?_)
    refine quiet_want (by kernel_rfl) ⟨(.tuple #[(.string ⟨#[]⟩), (.string RS), .bool false, .int .i64 0]), fun W hW => ?_, ?_⟩
    · refine quietAt_call (f := 17) (args := (#[.string Q, .string (strOfNums key), .int .i64 0])) (by go_simp) ?_
      refine (rread_calls true key 0 Q HK.out BK.out (by decide) (by have := HQS.out; omega) W _ HRI.out).mono ?_
      rintro e W' ⟨rfl, hb⟩
      exact ⟨by rw [HRV.out], hW.trans (hb.mono hW.size)⟩
    go_simp
    refine hK _ ?_
    clear hK K
    refine wpQuiet_step (fun K hK => ?_)
    refine quiet_want (by kernel_rfl) ⟨(.tuple #[(.string ⟨#[]⟩), (.string RS), .bool false, .int .i64 0]), fun W hW => ?_, ?_⟩
    · refine quietAt_val ?_
      go_simp
    go_simp
    refine hK _ ?_
    clear hK K
    refine wpQuiet_step (fun K hK => ?_)
    refine quiet_want (by kernel_rfl) ⟨(.string ⟨#[]⟩), fun W hW => ?_, ?_⟩
    · refine quietAt_val ?_
      go_simp
    go_simp
    refine hK _ ?_
    clear hK K
    refine wpQuiet_step (fun K hK => ?_)
    refine quiet_want (by kernel_rfl) ⟨(.string RS), fun W hW => ?_, ?_⟩
    · refine quietAt_val ?_
      go_simp
    go_simp
    refine hK _ ?_
    clear hK K
    refine wpQuiet_step (fun K hK => ?_)
    refine quiet_want (by kernel_rfl) ⟨(.bool false), fun W hW => ?_, ?_⟩
    · refine quietAt_val ?_
      go_simp
    go_simp
    refine hK _ ?_
    clear hK K
    refine wpQuiet_step (fun K hK => ?_)
    refine quiet_want (by kernel_rfl) ⟨(.int .i64 0), fun W hW => ?_, ?_⟩
    · refine quietAt_val ?_
      go_simp
    go_simp
    refine hK _ ?_
    clear hK K
    refine wpQuiet_step (fun K hK => ?_)
    refine quiet_want (by kernel_rfl) ⟨(.string ⟨#[]⟩), fun W hW => ?_, ?_⟩
    · refine quietAt_val ?_
      go_simp
    go_simp
    refine hK _ ?_
    clear hK K
    refine wpQuiet_step (fun K hK => ?_)
    refine quiet_want (by kernel_rfl) ⟨(.string RS), fun W hW => ?_, ?_⟩
    · refine quietAt_val ?_
      go_simp
    go_simp
    refine hK _ ?_
    clear hK K
    refine wpQuiet_step (fun K hK => ?_)
    refine quiet_want (by kernel_rfl) ⟨(.bool false), fun W hW => ?_, ?_⟩
    · refine quietAt_val ?_
      go_simp
    go_simp
    refine hK _ ?_
    clear hK K
    refine wpQuiet_step (fun K hK => ?_)
    refine quiet_want (by kernel_rfl) ⟨(.int .i64 0), fun W hW => ?_, ?_⟩
    · refine quietAt_val ?_
      go_simp
    go_simp
    refine hK _ ?_
    clear hK K
    refine wpQuiet_nil ?_
    intro W11 hB11
    have HB11 := Lib.hid hB11
    have HBW := Lib.hid (HF10.out.1.trans (hB11.mono HF10.out.1.size))
    clear hB11
    go_wp2_with fail
    refine (code_nil _).mono ?_
    rintro e w5 ⟨rfl, rfl⟩
    go_wp2_with fail
    go_ret
    exact ⟨rfl, HBW.out⟩
  · have HRI := Lib.hid hri
    refine (next_err gr 0 true key Q E HK.out BK.out (by decide) (by rw [HQS.out]; omega) W9 HE9.out.four HF9.out.2 (rangeAt_below T0.out HF9.out.1.1) (rangeAt_below T1.out HF9.out.1.1) ec hri).mono ?_
    rintro e W10 ⟨pF, rfl, h10, g10, _, p10⟩
    have HF10 := Lib.hid (HKP.out _ _ g10 HF9.out.1)
    have HPF := Lib.hid p10
    have HRV := Lib.hid (show readV ((ec : Int) + 1, false, [], []) = .tuple #[.string ⟨#[]⟩, .string ⟨#[]⟩, .bool false, .int .i64 ((ec : Int) + 1)] from rfl)
    clear h10 g10 hri p10
    unfold faultV
    go_wp2_with fail
    refine wp_region_class (fun W => Below W10.heap.size W10 W) (by kernel_rfl) (by kernel_rfl) (below_drawnN (Below.refl _ _) 1) ?_
    refine wpQuiet_step (fun K hK => ?_)
    refine quiet_want (by kernel_rfl) ⟨(.slice (some ⟨gb, 0, none⟩) P.size c), fun W hW => ?_, ?_⟩
    · refine quietAt_val ?_
      go_simp
    go_simp
    refine hK _ ?_
    clear hK K
    refine wpQuiet_step (fun K hK => ?_)
    refine quiet_want (by kernel_rfl) ⟨(.string Q), fun W hW => ?_, ?_⟩
    · refine quietAt_val ?_
      have hcz := turned_conv HXL.out (fun q hq => (hW.cell (p := ⟨gb, 0 + q, none⟩) (block_lt_of_cell (HF10.out.2.2 q hq))).trans (HF10.out.2.2 q hq)) HQE.out (c := c)
      go_simp
    go_simp
    refine hK _ ?_
    clear hK K
    refine wpQuiet_step (fun K hK => ?_)
    refine quiet_want (by kernel_rfl) ⟨(.slice (some ⟨w.heap.size, 0, none⟩) 32 32), fun W hW => ?_, ?_⟩
    · refine quietAt_val ?_
      go_simp
    go_simp
    refine hK _ ?_
    clear hK K
    refine wpQuiet_step (fun K hK => ?_)
    refine quiet_want (by kernel_rfl) ⟨(.string (strOfNums key)), fun W hW => ?_, ?_⟩
    · refine quietAt_val ?_
      have hrun := run_convert_bytes_arg (P := Tryz.prog) W 33 5 Tryz.underlying33 Tryz.underlying5 w.heap.size 0 32 32 key HK.out (fun q hq => by rw [Nat.zero_add, (HF10.out.2.1.below hW HF10.out.2.1.inside).int q (by rw [HK.out]; exact hq)]; rfl) 9 Tryz.underlying9
      go_simp
    go_simp
    refine hK _ ?_
    clear hK K
    refine wpQuiet_step (fun K hK => ?_)
    refine quiet_want (by kernel_rfl) ⟨(.tuple #[(.string ⟨#[]⟩), (.string ⟨#[]⟩), .bool false, .int .i64 ((ec : Int) + 1)]), fun W hW => ?_, ?_⟩
    · refine quietAt_call (f := 17) (args := (#[.string Q, .string (strOfNums key), .int .i64 0])) (by go_simp) ?_
      refine (rread_calls true key 0 Q HK.out BK.out (by decide) (by have := HQS.out; omega) W _ HRI.out).mono ?_
      rintro e W' ⟨rfl, hb⟩
      exact ⟨by rw [HRV.out], hW.trans (hb.mono hW.size)⟩
    go_simp
    refine hK _ ?_
    clear hK K
    refine wpQuiet_step (fun K hK => ?_)
    refine quiet_want (by kernel_rfl) ⟨(.tuple #[(.string ⟨#[]⟩), (.string ⟨#[]⟩), .bool false, .int .i64 ((ec : Int) + 1)]), fun W hW => ?_, ?_⟩
    · refine quietAt_val ?_
      go_simp
    go_simp
    refine hK _ ?_
    clear hK K
    refine wpQuiet_step (fun K hK => ?_)
    refine quiet_want (by kernel_rfl) ⟨(.string ⟨#[]⟩), fun W hW => ?_, ?_⟩
    · refine quietAt_val ?_
      go_simp
    go_simp
    refine hK _ ?_
    clear hK K
    refine wpQuiet_step (fun K hK => ?_)
    refine quiet_want (by kernel_rfl) ⟨(.string ⟨#[]⟩), fun W hW => ?_, ?_⟩
    · refine quietAt_val ?_
      go_simp
    go_simp
    refine hK _ ?_
    clear hK K
    refine wpQuiet_step (fun K hK => ?_)
    refine quiet_want (by kernel_rfl) ⟨(.bool false), fun W hW => ?_, ?_⟩
    · refine quietAt_val ?_
      go_simp
    go_simp
    refine hK _ ?_
    clear hK K
    refine wpQuiet_step (fun K hK => ?_)
    refine quiet_want (by kernel_rfl) ⟨(.int .i64 ((ec : Int) + 1)), fun W hW => ?_, ?_⟩
    · refine quietAt_val ?_
      go_simp
    go_simp
    refine hK _ ?_
    clear hK K
    refine wpQuiet_step (fun K hK => ?_)
    refine quiet_want (by kernel_rfl) ⟨(.string ⟨#[]⟩), fun W hW => ?_, ?_⟩
    · refine quietAt_val ?_
      go_simp
    go_simp
    refine hK _ ?_
    clear hK K
    refine wpQuiet_step (fun K hK => ?_)
    refine quiet_want (by kernel_rfl) ⟨(.string ⟨#[]⟩), fun W hW => ?_, ?_⟩
    · refine quietAt_val ?_
      go_simp
    go_simp
    refine hK _ ?_
    clear hK K
    refine wpQuiet_step (fun K hK => ?_)
    refine quiet_want (by kernel_rfl) ⟨(.bool false), fun W hW => ?_, ?_⟩
    · refine quietAt_val ?_
      go_simp
    go_simp
    refine hK _ ?_
    clear hK K
    refine wpQuiet_step (fun K hK => ?_)
    refine quiet_want (by kernel_rfl) ⟨(.int .i64 ((ec : Int) + 1)), fun W hW => ?_, ?_⟩
    · refine quietAt_val ?_
      go_simp
    go_simp
    refine hK _ ?_
    clear hK K
    refine wpQuiet_nil ?_
    intro W11 hB11
    have HB11 := Lib.hid hB11
    have HBW := Lib.hid (HF10.out.1.trans (hB11.mono HF10.out.1.size))
    clear hB11
    go_wp2_with fail
    refine (code_fault E ec hec pF 0 W11 (HE.out.below HBW.out) (by rw [(HPF.out.below HB11.out HPF.out.inside).at_]; rfl)).mono ?_
    rintro e w5 ⟨rfl, rfl⟩
    go_wp2_with fail
    go_ret
    exact ⟨rfl, HBW.out⟩
end Go.Proofs.YtfoljmpphbhobaaGreatDoor
