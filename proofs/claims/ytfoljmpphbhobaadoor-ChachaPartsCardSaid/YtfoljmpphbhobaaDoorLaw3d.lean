/- The walk of ChachaParts: it answers true. -/
import Derived.Test.YtfoljmpphbhobaaDoorLaw3b
namespace Go.Proofs.YtfoljmpphbhobaaDoor
open Go.RowKit Go.Spk
set_option linter.unusedVariables false
theorem ix_take (ws : List Int) (n i : Nat) (h : i < n) : ix (ws.take n) i = ix ws i := by
  unfold ix; simp [List.getD, h]
theorem ix_drop (ws : List Int) (n i : Nat) : ix (ws.drop n) i = ix ws (n + i) := by
  unfold ix; simp [List.getD]
theorem ix_append_right (xs ys : List Int) (i : Nat) (h : xs.length ≤ i) : ix (xs ++ ys) i = ix ys (i - xs.length) := by
  unfold ix; simp [List.getD, List.getElem?_append_right h]
/-- The stream falls into parts at a block's edge. -/
theorem xorI_parts (ks ns ws : List Int) (k : Nat) (hk : 64 * k ≤ ws.length) (hs : ws.length < 200000000000) :
    xorI ks 0 ns (ws.take (64 * k)) ++ xorI ks (k : Int) ns (ws.drop (64 * k)) = xorI ks 0 ns ws := by
  have hl1 : (ws.take (64 * k)).length = 64 * k := by simp; omega
  have hl2 : (ws.drop (64 * k)).length = ws.length - 64 * k := by simp
  refine ix_ext (by rw [List.length_append, xorI_length, xorI_length, xorI_length, hl1, hl2]; omega) fun i hi => ?_
  rw [List.length_append, xorI_length, xorI_length, hl1, hl2] at hi
  rw [ix_xorI _ _ _ ws i (by omega)]
  by_cases h : i < 64 * k
  · rw [ix_append_left _ _ _ (by rw [xorI_length, hl1]; exact h), ix_xorI _ _ _ _ i (by rw [hl1]; exact h), ix_take _ _ _ h]
  · rw [ix_append_right _ _ _ (by rw [xorI_length, hl1]; omega), xorI_length, hl1, ix_xorI _ _ _ _ _ (by rw [hl2]; omega), ix_drop, show 64 * k + (i - 64 * k) = i by omega]
    congr 1
    unfold streamI
    rw [show (i - 64 * k) % 64 = i % 64 by omega, show ((k : Int) + ((i - 64 * k) / 64 : Nat)) = 0 + (i / 64 : Nat) by omega]
theorem bI_inj {a b : ByteArray} (h : bI a = bI b) : a = b := by rw [← str_bI a, h, str_bI]
theorem bI_append (a b : ByteArray) : bI (a ++ b) = bI a ++ bI b := by
  simp [bI]
set_option maxRecDepth 100000 in
set_option maxHeartbeats 1000000 in
theorem parts_calls (ks : List Int) (s0 : ByteArray) (n : Int) (hk : ks.length = 32) (bk : ∀ b ∈ ks, 0 ≤ b ∧ b ≤ 255) (hn0 : -9223372036854775808 ≤ n) (hn1 : n ≤ 9223372036854775807) (w : World)
   (t0 : w.rangeAt 0 0 (beginI.map (Value.int .u32))) (t1 : w.rangeAt 1 0 orderC) :
    Calls Tryd.prog 5 #[.agg (rowI .u8 ks), .string s0, .int .i64 n] w fun e w' => e = .returned (.bool true) ∧ Below w.heap.size w w' := by
  have T0 := Lib.hid t0; have T1 := Lib.hid t1; clear t0 t1
  have HK := Lib.hid hk; clear hk
  have BK := Lib.hid bk; clear bk
  go_enter Tryd.func5, Tryd.ntmps5
  go_wp2_with fail
  generalize hW1 : w.alloc (Obj.cells (rowI IntKind.u8 ks) 22) = W1
  have hF1 : Below w.heap.size w W1 ∧ Whole W1 w.heap.size 22 (rowI .u8 ks) ∧ w.heap.size < W1.heap.size := by
    subst hW1
    exact ⟨by go_grown, Whole.new rfl rfl, by simp⟩
  clear hW1
  obtain ⟨hB1, hk1, hs1⟩ := hF1
  refine (awake_calls _ (rangeAt_below T0.out hB1) (rangeAt_below T1.out hB1)).mono ?_
  rintro e W2 ⟨rfl, hb2⟩
  have hB2 := hB1.trans (hb2.mono hB1.size)
  have hk2 := hk1.below hb2 hs1
  have hs2 : w.heap.size < W2.heap.size := Nat.lt_of_lt_of_le hs1 hb2.size
  clear hb2 hB1 hk1 hs1 W1
  have e1 : (Tryd.prog.info? 22).map (·.size) = some (rowI .u8 ks).size := by rw [rowI_size, HK.out]; kernel_rfl
  have H1 := Lib.hid e1
  clear e1
  go_wp2_with fail
  refine (cut_calls s0 300 (by omega) _).mono ?_
  rintro e W2' ⟨⟨s, rfl, hcut, hsz⟩, rfl⟩
  clear hcut
  have HF2 := Lib.hid (And.intro hB2 (And.intro hk2 hs2))
  clear hB2 hk2 hs2
  go_wp2_with fail
  obtain ⟨k, hk⟩ : ∃ k : Nat, max 0 (min n (s.size : Int)) / 64 = (k : Int) := ⟨(max 0 (min n (s.size : Int)) / 64).toNat, by omega⟩
  have hks : 64 * k ≤ s.size := by omega
  rw [hk]
  generalize hzz : List.replicate 12 (0 : Int) = zz
  have hzl : zz.length = 12 := by rw [← hzz]; rfl
  have hzm : ∀ b ∈ zz, 0 ≤ b ∧ b ≤ 255 := by rw [← hzz]; decide
  have HZZ := Lib.hid hzz; have HZ := Lib.hid hzl; have BZ := Lib.hid hzm
  have e2 : (Tryd.prog.info? 24).map (·.size) = some (rowI .u8 zz).size := by rw [rowI_size, HZ.out]; kernel_rfl
  have H2 := Lib.hid e2
  clear e2 hzz hzl hzm
  have HSZ := Lib.hid hsz
  refine name_wp (fun W => Below w.heap.size w W ∧ Whole W w.heap.size 22 (rowI .u8 ks) ∧ Whole W W2.heap.size 24 (rowI .u8 zz)) ⟨HF2.out.1.alloc HF2.out.1.size _, HF2.out.2.1.alloc _, Whole.new rfl (by rw [← HZZ.out]; rfl)⟩ ?_
  intro W3 hF3
  obtain ⟨A, hA⟩ : ∃ A, A = s.extract 0 (64 * k) := ⟨_, rfl⟩
  obtain ⟨B, hB⟩ : ∃ B, B = s.extract (64 * k) s.size := ⟨_, rfl⟩
  have bA : bI A = (bI s).take (64 * k) := by rw [hA]; simp [bI]
  have bB : bI B = (bI s).drop (64 * k) := by
    rw [hB]; simp [bI]
    rw [List.take_of_length_le (by simp)]
  have sA : A.size ≤ 300 := by rw [← bI_length, bA, List.length_take, bI_length]; omega
  have sB : B.size ≤ 300 := by rw [← bI_length, bB, List.length_drop, bI_length]; omega
  obtain ⟨X1, hX1⟩ : ∃ X, X = strOfNums (xorI ks 0 zz (bI A)) := ⟨_, rfl⟩
  obtain ⟨X2, hX2⟩ : ∃ X, X = strOfNums (xorI ks (k : Int) zz (bI B)) := ⟨_, rfl⟩
  obtain ⟨X, hX⟩ : ∃ X, X = strOfNums (xorI ks 0 zz (bI s)) := ⟨_, rfl⟩
  have hadd : X1 ++ X2 = X := by
    apply bI_inj
    rw [bI_append, hX1, hX2, hX, bI_str (xorI_mem _ _ _ _), bI_str (xorI_mem _ _ _ _), bI_str (xorI_mem _ _ _ _), bA, bB]
    exact xorI_parts ks zz (bI s) k (by rw [bI_length]; exact hks) (by rw [bI_length]; omega)
  have hsx : X1.size + X2.size ≤ 600 := by
    have e1 : X1.size = A.size := by rw [hX1, ← bI_length, bI_str (xorI_mem _ _ _ _), xorI_length, bI_length]
    have e2 : X2.size = B.size := by rw [hX2, ← bI_length, bI_str (xorI_mem _ _ _ _), xorI_length, bI_length]
    omega
  have HSX := Lib.hid hsx
  have HA := Lib.hid hA; have HB := Lib.hid hB; have SA := Lib.hid sA; have SB := Lib.hid sB
  have HX1 := Lib.hid hX1; have HX2 := Lib.hid hX2; have HX := Lib.hid hX; have HADD := Lib.hid hadd
  have kb4 : (k : Int) ≤ 4 := by omega
  have KB := Lib.hid kb4
  have HKS := Lib.hid hks
  generalize W2.heap.size = gn at hF3
  clear hsx kb4 hA hB sA sB hX1 hX2 hX hadd bA bB hks hk hsz HF2
  refine wp_region_class (fun W => Below w.heap.size w W ∧ Whole W w.heap.size 22 (rowI .u8 ks) ∧ Whole W gn 24 (rowI .u8 zz)) (by kernel_rfl) (by kernel_rfl) ⟨⟨hF3.1.os, hF3.1.tape, hF3.1.output, hF3.1.size, hF3.1.block⟩, hF3.2⟩ ?_
  refine wpQuiet_step (fun K hK => ?_)
  refine quiet_load (by kernel_rfl) 22 (.tmp 3) rfl _ rfl 22 (rowI .u8 ks) _ (fun W hW => hW.2.1) Tryd.underlying22 rfl H1.out ?_
  go_simp
  refine hK _ ?_
  clear hK K
  refine wpQuiet_step (fun K hK => ?_)
  refine quiet_load (by kernel_rfl) 24 (.tmp 8) rfl _ rfl 24 (rowI .u8 zz) _ (fun W hW => hW.2.2) Tryd.underlying24 rfl H2.out ?_
  go_simp
  refine hK _ ?_
  clear hK K
  refine wpQuiet_step (fun K hK => ?_)
  refine quiet_want (by kernel_rfl) ⟨(.string s), fun W hW => ?_, ?_⟩
  · refine quietAt_val ?_
    go_simp
  go_simp
  refine hK _ ?_
  clear hK K
  refine wpQuiet_step (fun K hK => ?_)
  refine quiet_want (by kernel_rfl) ⟨(.int .i64 (k : Int)), fun W hW => ?_, ?_⟩
  · refine quietAt_val ?_
    go_simp
  go_simp
  refine hK _ ?_
  clear hK K
  refine wpQuiet_step (fun K hK => ?_)
  refine quiet_want (by kernel_rfl) ⟨(.int .i64 (64 * (k : Int))), fun W hW => ?_, ?_⟩
  · refine quietAt_val ?_
    have hw : IntKind.i64.wrap (64 * (k : Int)) = 64 * (k : Int) := by have := KB.out; rw [IntKind.wrap_i64]; omega
    go_simp
  go_simp
  refine hK _ ?_
  clear hK K
  refine wpQuiet_step (fun K hK => ?_)
  refine quiet_want (by kernel_rfl) ⟨(.string A), fun W hW => ?_, ?_⟩
  · refine quietAt_val ?_
    have i1 : 64 * (k : Int) ≤ s.size := by have := HKS.out; omega
    have i2 : (64 * (k : Int)).toNat = 64 * k := by omega
    have i3 := HA.out.symm
    have i4 : (0 : Int) ≤ 64 * (k : Int) := by omega
    go_simp
  go_simp
  refine hK _ ?_
  clear hK K
  refine wpQuiet_step (fun K hK => ?_)
  refine quiet_want (by kernel_rfl) ⟨(.string X1), fun W hW => ?_, ?_⟩
  · refine quietAt_call (f := 17) (args := (#[.agg (rowI .u8 ks), .int .u32 0, .agg (rowI .u8 zz), .string A])) (by go_simp) ?_
    refine (xor_calls ks zz 0 A HK.out HZ.out (U8s_of_mem BK.out) (U8s_of_mem BZ.out) (by omega) (by omega) (by have := SA.out; omega) _ (rangeAt_below T0.out hW.1) (rangeAt_below T1.out hW.1)).mono ?_
    rintro e W' ⟨rfl, hb⟩
    rw [← HX1.out]
    have hz := hW.1.size
    exact ⟨rfl, hW.1.trans (hb.mono hz), hW.2.1.below hb hW.2.1.inside, hW.2.2.below hb hW.2.2.inside⟩
  go_simp
  refine hK _ ?_
  clear hK K
  refine wpQuiet_step (fun K hK => ?_)
  refine quiet_load (by kernel_rfl) 22 (.tmp 3) rfl _ rfl 22 (rowI .u8 ks) _ (fun W hW => hW.2.1) Tryd.underlying22 rfl H1.out ?_
  go_simp
  refine hK _ ?_
  clear hK K
  refine wpQuiet_step (fun K hK => ?_)
  refine quiet_want (by kernel_rfl) ⟨(.int .i64 (k : Int)), fun W hW => ?_, ?_⟩
  · refine quietAt_val ?_
    go_simp
  go_simp
  refine hK _ ?_
  clear hK K
  refine wpQuiet_step (fun K hK => ?_)
  refine quiet_want (by kernel_rfl) ⟨(.int .u32 (k : Int)), fun W hW => ?_, ?_⟩
  · refine quietAt_val ?_
    have hw : IntKind.u32.wrap (k : Int) = (k : Int) := by have := KB.out; rw [IntKind.wrap_u32]; omega
    go_simp
  go_simp
  refine hK _ ?_
  clear hK K
  refine wpQuiet_step (fun K hK => ?_)
  refine quiet_load (by kernel_rfl) 24 (.tmp 8) rfl _ rfl 24 (rowI .u8 zz) _ (fun W hW => hW.2.2) Tryd.underlying24 rfl H2.out ?_
  go_simp
  refine hK _ ?_
  clear hK K
  refine wpQuiet_step (fun K hK => ?_)
  refine quiet_want (by kernel_rfl) ⟨(.string s), fun W hW => ?_, ?_⟩
  · refine quietAt_val ?_
    go_simp
  go_simp
  refine hK _ ?_
  clear hK K
  refine wpQuiet_step (fun K hK => ?_)
  refine quiet_want (by kernel_rfl) ⟨(.int .i64 (k : Int)), fun W hW => ?_, ?_⟩
  · refine quietAt_val ?_
    go_simp
  go_simp
  refine hK _ ?_
  clear hK K
  refine wpQuiet_step (fun K hK => ?_)
  refine quiet_want (by kernel_rfl) ⟨(.int .i64 (64 * (k : Int))), fun W hW => ?_, ?_⟩
  · refine quietAt_val ?_
    have hw : IntKind.i64.wrap (64 * (k : Int)) = 64 * (k : Int) := by have := KB.out; rw [IntKind.wrap_i64]; omega
    go_simp
  go_simp
  refine hK _ ?_
  clear hK K
  refine wpQuiet_step (fun K hK => ?_)
  refine quiet_want (by kernel_rfl) ⟨(.string B), fun W hW => ?_, ?_⟩
  · refine quietAt_val ?_
    have i1 : 64 * (k : Int) ≤ s.size := by have := HKS.out; omega
    have i2 : (64 * (k : Int)).toNat = 64 * k := by omega
    have i3 := HB.out.symm
    have i4 : (0 : Int) ≤ 64 * (k : Int) := by omega
    go_simp
  go_simp
  refine hK _ ?_
  clear hK K
  refine wpQuiet_step (fun K hK => ?_)
  refine quiet_want (by kernel_rfl) ⟨(.string X2), fun W hW => ?_, ?_⟩
  · refine quietAt_call (f := 17) (args := (#[.agg (rowI .u8 ks), .int .u32 (k : Int), .agg (rowI .u8 zz), .string B])) (by go_simp) ?_
    refine (xor_calls ks zz (k : Int) B HK.out HZ.out (U8s_of_mem BK.out) (U8s_of_mem BZ.out) (by omega) (by have := KB.out; omega) (by have := SB.out; omega) _ (rangeAt_below T0.out hW.1) (rangeAt_below T1.out hW.1)).mono ?_
    rintro e W' ⟨rfl, hb⟩
    rw [← HX2.out]
    have hz := hW.1.size
    exact ⟨rfl, hW.1.trans (hb.mono hz), hW.2.1.below hb hW.2.1.inside, hW.2.2.below hb hW.2.2.inside⟩
  go_simp
  refine hK _ ?_
  clear hK K
  refine wpQuiet_step (fun K hK => ?_)
  refine quiet_want (by kernel_rfl) ⟨(.string X), fun W hW => ?_, ?_⟩
  · refine quietAt_val ?_
    have i1 := HADD.out
    have i2 : X1.size + X2.size ≤ 9223372036854775807 := by have := HSX.out; omega
    go_simp
  go_simp
  refine hK _ ?_
  clear hK K
  refine wpQuiet_step (fun K hK => ?_)
  refine quiet_load (by kernel_rfl) 22 (.tmp 3) rfl _ rfl 22 (rowI .u8 ks) _ (fun W hW => hW.2.1) Tryd.underlying22 rfl H1.out ?_
  go_simp
  refine hK _ ?_
  clear hK K
  refine wpQuiet_step (fun K hK => ?_)
  refine quiet_load (by kernel_rfl) 24 (.tmp 8) rfl _ rfl 24 (rowI .u8 zz) _ (fun W hW => hW.2.2) Tryd.underlying24 rfl H2.out ?_
  go_simp
  refine hK _ ?_
  clear hK K
  refine wpQuiet_step (fun K hK => ?_)
  refine quiet_want (by kernel_rfl) ⟨(.string s), fun W hW => ?_, ?_⟩
  · refine quietAt_val ?_
    go_simp
  go_simp
  refine hK _ ?_
  clear hK K
  refine wpQuiet_step (fun K hK => ?_)
  refine quiet_want (by kernel_rfl) ⟨(.string X), fun W hW => ?_, ?_⟩
  · refine quietAt_call (f := 17) (args := (#[.agg (rowI .u8 ks), .int .u32 0, .agg (rowI .u8 zz), .string s])) (by go_simp) ?_
    refine (xor_calls ks zz 0 s HK.out HZ.out (U8s_of_mem BK.out) (U8s_of_mem BZ.out) (by omega) (by omega) (by have := HSZ.out; omega) _ (rangeAt_below T0.out hW.1) (rangeAt_below T1.out hW.1)).mono ?_
    rintro e W' ⟨rfl, hb⟩
    rw [← HX.out]
    have hz := hW.1.size
    exact ⟨rfl, hW.1.trans (hb.mono hz), hW.2.1.below hb hW.2.1.inside, hW.2.2.below hb hW.2.2.inside⟩
  go_simp
  refine hK _ ?_
  clear hK K
  refine wpQuiet_step (fun K hK => ?_)
  refine quiet_want (by kernel_rfl) ⟨(.bool true), fun W hW => ?_, ?_⟩
  · refine quietAt_val ?_
    go_simp
  go_simp
  refine hK _ ?_
  clear hK K
  refine wpQuiet_step (fun K hK => ?_)
  refine quiet_want (by kernel_rfl) ⟨(.bool true), fun W hW => ?_, ?_⟩
  · refine quietAt_val ?_
    go_simp
  go_simp
  refine hK _ ?_
  clear hK K
  refine wpQuiet_nil ?_
  intro W5 hF5
  go_wp2
  go_ret
  exact ⟨rfl, hF5.1⟩
end Go.Proofs.YtfoljmpphbhobaaDoor
