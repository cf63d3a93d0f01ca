/- The walk of the reference's Block. -/
import Derived.Test.YtfoljmpphbhobaaDoorRef2
namespace Go.Proofs.YtfoljmpphbhobaaDoor
open Go.RowKit Go.Spk
set_option linter.unusedVariables false
def constS : ByteArray := ⟨#[101, 120, 112, 97, 110, 100, 32, 51, 50, 45, 98, 121, 116, 101, 32, 107]⟩
theorem const_words : wordsI (bI constS) 4 = beginI := by decide +kernel
theorem state_words (ks ns : List Int) (c : Int) : beginI ++ wordsI ks 8 ++ [c] ++ wordsI ns 3 = stateI ks c ns := rfl
def bytesT (X A : List Int) (n : Nat) : List Int := (List.range (4 * n)).map (byteAt X A)
theorem bytesT_length (X A : List Int) (n : Nat) : (bytesT X A n).length = 4 * n := by simp [bytesT]
theorem bytesT_succ (X A : List Int) (n : Nat) : bytesT X A (n + 1) = bytesT X A n ++ [byteAt X A (4 * n), byteAt X A (4 * n + 1), byteAt X A (4 * n + 2), byteAt X A (4 * n + 3)] := by
  simp [bytesT, Nat.mul_add, List.range_succ]
theorem bytes4 (X A : List Int) (i : Nat) : (ix X i + ix A i) % 256 = byteAt X A (4 * i) ∧ (ix X i + ix A i) % 4294967296 / 256 % 256 = byteAt X A (4 * i + 1) ∧
    (ix X i + ix A i) % 4294967296 / 65536 % 256 = byteAt X A (4 * i + 2) ∧ (ix X i + ix A i) % 4294967296 / 16777216 = byteAt X A (4 * i + 3) := by
  have h0 := byteAt_of X A i 0 (by omega)
  have h1 := byteAt_of X A i 1 (by omega)
  have h2 := byteAt_of X A i 2 (by omega)
  have h3 := byteAt_of X A i 3 (by omega)
  rw [Nat.add_zero] at h0
  rw [h0, h1, h2, h3]
  unfold add32
  refine ⟨?_, ?_, ?_, ?_⟩ <;> simp <;> omega
theorem W32_state (ks ns : List Int) (c : Int) (hk : U8s ks) (hn : U8s ns) (h0 : 0 ≤ c) (h1 : c < 4294967296) : W32 (stateI ks c ns) := by
  have wa : ∀ (l : List Int) (i : Nat), U8s l → 0 ≤ wordAt l i ∧ wordAt l i < 4294967296 := fun l i hl => by
    have a := hl (4 * i); have b := hl (4 * i + 1); have c := hl (4 * i + 2); have d := hl (4 * i + 3)
    unfold wordAt word4; omega
  have f : ∀ (l ws : List Int) (o n : Nat), U8s l → W32 ws → W32 (fillW l o ws n) := fun l ws o n hl hw => by
    induction n with
    | zero => exact hw
    | succ n ih => exact ih.set _ _ (wa _ _ hl).1 (wa _ _ hl).2
  refine f _ _ _ _ hn ((f _ _ _ _ hk ?_).set _ _ h0 h1)
  intro i
  by_cases h : i < 16
  · revert i; decide
  · unfold ix List.getD; rw [List.getElem?_eq_none (by simp [beginI]; omega)]; decide
set_option maxRecDepth 100000 in
set_option maxHeartbeats 4000000 in
theorem rblock_calls (key nonce : ByteArray) (ctr : Int) (hk : key.size = 32) (hn : nonce.size = 12) (h0 : 0 ≤ ctr) (h1 : ctr < 18446744073709551616) (w : World) :
    Calls Tryd.prog 15 #[.string key, .int .u64 ctr, .string nonce] w
      fun e w' => e = .returned (.string (strOfNums (blockI (bI key) (ctr % 4294967296) (bI nonce)))) ∧ Below w.heap.size w w' := by
  have HK := Lib.hid hk; have HN := Lib.hid hn; clear hk hn
  go_enter Tryd.func15, Tryd.ntmps15
  go_wp2_with fail
  refine (words_calls constS 4 (by decide) (by decide) _).mono ?_
  rintro e w1 ⟨g1, c1, rfl, hO1, hb1⟩
  rw [const_words] at hO1
  go_wp2_with fail
  refine (words_calls key 8 (by rw [HK.out]) (by rw [HK.out]; decide) _).mono ?_
  rintro e w2 ⟨g2, c2, rfl, hO2, hb2⟩
  have hO1' := hO1.below hb2 hO1.lt.2
  have hB2 : Below w.heap.size w w2 := hb1.trans (hb2.mono hb1.size)
  have hs2 := hO2.len
  have HS2 := Lib.hid hs2
  clear hs2
  go_wp2_with (first
    | (at_builtin
       refine wpList_push rfl (.tmp 13) (.tmp 15) 83 rfl 8 Tryd.underlying83 (by kernel_rfl) rfl hO1' ⟨g2, 0, none⟩ 8 c2 (wordsI (bI key) 8) rfl HS2.out (fun j hj => by rw [Addr.add_mid, Nat.zero_add]; exact hO2.cell j (by rw [HS2.out] at hj; exact hj)) (by omega) (by omega) (by omega) ?_
       intro g3 c3 w3 hO3 hg3 hat3
       have hB3 : Below w.heap.size w w3 := hB2.grown hg3 hB2.size (fun k hk => by injection hk with hk; subst hk; exact hO1.lt.1)
       clear hg3 hat3)
    | (at_builtin
       refine wpList_push rfl (.tmp 17) (.tmp 20) 83 rfl 8 Tryd.underlying83 (by kernel_rfl) rfl (hO3.alloc _) ⟨w3.heap.size, 0, none⟩ 1 1 [ctr % 4294967296] rfl rfl (cell_one (by simp)) (by omega) (by omega) (by omega) ?_
       intro g4 c4 w4 hO4 hg4 hat4
       have hB4 : Below w.heap.size w w4 := (hB3.alloc hB3.size _).grown hg4 (by simp; exact Nat.le_succ_of_le hB3.size) (fun k hk => by injection hk with hk; subst hk; exact hO3.lt.1)
       clear hg4 hat4))
  refine (words_calls nonce 3 (by rw [HN.out]) (by rw [HN.out]; decide) _).mono ?_
  rintro e w5 ⟨g5, c5, rfl, hO5, hb5⟩
  have hO4' := hO4.below hb5 hO4.lt.2
  have hB5 : Below w.heap.size w w5 := hB4.trans (hb5.mono hB4.size)
  have hs5 := hO5.len
  have HS5 := Lib.hid hs5
  clear hs5 hO1 hO1' hO2 hb1 hb2 hO3 hB2 hB3
  go_wp2_with (at_builtin; refine wpList_push rfl (.tmp 22) (.tmp 24) 83 rfl 8 Tryd.underlying83 (by kernel_rfl) rfl hO4' ⟨g5, 0, none⟩ 3 c5 (wordsI (bI nonce) 3) rfl HS5.out (fun j hj => by rw [Addr.add_mid, Nat.zero_add]; exact hO5.cell j (by rw [HS5.out] at hj; exact hj)) (by omega) (by omega) (by omega) ?_; intro gA cA w6 hO6 hg6 hat6)
  have hB6 : Below w.heap.size w w6 := hB5.grown hg6 hB5.size (fun k hk => by injection hk with hk; subst hk; exact hO4.lt.1)
  have hst : beginI ++ wordsI (bI key) 8 ++ [ctr % 4294967296] ++ wordsI (bI nonce) 3 = stateI (bI key) (ctr % 4294967296) (bI nonce) := state_words _ _ _
  rw [hst] at hO6
  have h32 := W32_state (bI key) (bI nonce) (ctr % 4294967296) (U8s_bI _) (U8s_bI _) (by omega) (by omega)
  have hlA := hO6.len
  obtain ⟨A, hA⟩ : ∃ A, A = stateI (bI key) (ctr % 4294967296) (bI nonce) := ⟨_, rfl⟩
  rw [← hA] at hO6 h32 hlA
  have HA := Lib.hid hA
  have HLA := Lib.hid hlA
  clear hst hA hlA hg6 hat6 hO5 hb5 hO4 hO4' hB5 hB4
  have hO6' : Own w6 w.heap.size 30 .u64 gA 16 cA A := hO6
  clear hO6
  go_loopw [8, 9] (fun x i wr => ∃ k gx cx : Nat, k ≤ 10 ∧ i = .int .i64 k ∧ x = .slice (some ⟨gx, 0, none⟩) 16 cx ∧ Own wr w.heap.size 30 .u64 gx 16 cx (rounds20 A k) ∧
      Own wr w.heap.size 30 .u64 gA 16 cA A ∧ Below w.heap.size w wr ∧ W32 (rounds20 A k)) (fun _ i _ => 10 - (intOf i).toNat)
  case atStart => exact ⟨0, gA, cA, by omega, rfl, rfl, hO6', hO6', hB6, h32⟩
  case round =>
    clear hO6' hB6
    obtain ⟨k, gx, cx, hk, rfl, rfl, hX0, hA0, hB0, q0⟩ := hrel
    by_cases hlt : k < 10
    · obtain ⟨v0, rfl⟩ : ∃ wx : World, wx = wr := ⟨_, rfl⟩
      obtain ⟨R, hR⟩ : ∃ R, R = rounds20 A k := ⟨_, rfl⟩
      rw [← hR] at hX0 q0
      have HR := Lib.hid hR
      clear hR
      go_wp2_with fail
      refine (rquarter_calls gx cx w.heap.size R 0 4 8 12 q0 (by decide) (by decide) (by decide) (by decide) _ hX0).mono ?_
      rintro e v1 ⟨gx1, cx1, rfl, hX', hb'⟩
      have hX1 : Own v1 w.heap.size 30 .u64 gx1 16 cx1 (qrs R 1) := hX'.less hB0.size
      have hA1 := hA0.below hb' hA0.lt.2
      have hB1 : Below w.heap.size w v1 := hB0.trans (hb'.mono hB0.size)
      have q1 : W32 (qrs R 1) := W32.rq q0 0 4 8 12
      clear hX' hb' hX0 hA0 hB0 q0
      go_wp2_with fail
      refine (rquarter_calls gx1 cx1 w.heap.size (qrs R 1) 1 5 9 13 q1 (by decide) (by decide) (by decide) (by decide) _ hX1).mono ?_
      rintro e v2 ⟨gx2, cx2, rfl, hX', hb'⟩
      have hX2 : Own v2 w.heap.size 30 .u64 gx2 16 cx2 (qrs R 2) := hX'.less hB1.size
      have hA2 := hA1.below hb' hA1.lt.2
      have hB2 : Below w.heap.size w v2 := hB1.trans (hb'.mono hB1.size)
      have q2 : W32 (qrs R 2) := W32.rq q1 1 5 9 13
      clear hX' hb' hX1 hA1 hB1 q1
      go_wp2_with fail
      refine (rquarter_calls gx2 cx2 w.heap.size (qrs R 2) 2 6 10 14 q2 (by decide) (by decide) (by decide) (by decide) _ hX2).mono ?_
      rintro e v3 ⟨gx3, cx3, rfl, hX', hb'⟩
      have hX3 : Own v3 w.heap.size 30 .u64 gx3 16 cx3 (qrs R 3) := hX'.less hB2.size
      have hA3 := hA2.below hb' hA2.lt.2
      have hB3 : Below w.heap.size w v3 := hB2.trans (hb'.mono hB2.size)
      have q3 : W32 (qrs R 3) := W32.rq q2 2 6 10 14
      clear hX' hb' hX2 hA2 hB2 q2
      go_wp2_with fail
      refine (rquarter_calls gx3 cx3 w.heap.size (qrs R 3) 3 7 11 15 q3 (by decide) (by decide) (by decide) (by decide) _ hX3).mono ?_
      rintro e v4 ⟨gx4, cx4, rfl, hX', hb'⟩
      have hX4 : Own v4 w.heap.size 30 .u64 gx4 16 cx4 (qrs R 4) := hX'.less hB3.size
      have hA4 := hA3.below hb' hA3.lt.2
      have hB4 : Below w.heap.size w v4 := hB3.trans (hb'.mono hB3.size)
      have q4 : W32 (qrs R 4) := W32.rq q3 3 7 11 15
      clear hX' hb' hX3 hA3 hB3 q3
      go_wp2_with fail
      refine (rquarter_calls gx4 cx4 w.heap.size (qrs R 4) 0 5 10 15 q4 (by decide) (by decide) (by decide) (by decide) _ hX4).mono ?_
      rintro e v5 ⟨gx5, cx5, rfl, hX', hb'⟩
      have hX5 : Own v5 w.heap.size 30 .u64 gx5 16 cx5 (qrs R 5) := hX'.less hB4.size
      have hA5 := hA4.below hb' hA4.lt.2
      have hB5 : Below w.heap.size w v5 := hB4.trans (hb'.mono hB4.size)
      have q5 : W32 (qrs R 5) := W32.rq q4 0 5 10 15
      clear hX' hb' hX4 hA4 hB4 q4
      go_wp2_with fail
      refine (rquarter_calls gx5 cx5 w.heap.size (qrs R 5) 1 6 11 12 q5 (by decide) (by decide) (by decide) (by decide) _ hX5).mono ?_
      rintro e v6 ⟨gx6, cx6, rfl, hX', hb'⟩
      have hX6 : Own v6 w.heap.size 30 .u64 gx6 16 cx6 (qrs R 6) := hX'.less hB5.size
      have hA6 := hA5.below hb' hA5.lt.2
      have hB6 : Below w.heap.size w v6 := hB5.trans (hb'.mono hB5.size)
      have q6 : W32 (qrs R 6) := W32.rq q5 1 6 11 12
      clear hX' hb' hX5 hA5 hB5 q5
      go_wp2_with fail
      refine (rquarter_calls gx6 cx6 w.heap.size (qrs R 6) 2 7 8 13 q6 (by decide) (by decide) (by decide) (by decide) _ hX6).mono ?_
      rintro e v7 ⟨gx7, cx7, rfl, hX', hb'⟩
      have hX7 : Own v7 w.heap.size 30 .u64 gx7 16 cx7 (qrs R 7) := hX'.less hB6.size
      have hA7 := hA6.below hb' hA6.lt.2
      have hB7 : Below w.heap.size w v7 := hB6.trans (hb'.mono hB6.size)
      have q7 : W32 (qrs R 7) := W32.rq q6 2 7 8 13
      clear hX' hb' hX6 hA6 hB6 q6
      go_wp2_with fail
      refine (rquarter_calls gx7 cx7 w.heap.size (qrs R 7) 3 4 9 14 q7 (by decide) (by decide) (by decide) (by decide) _ hX7).mono ?_
      rintro e v8 ⟨gx8, cx8, rfl, hX', hb'⟩
      have hX8 : Own v8 w.heap.size 30 .u64 gx8 16 cx8 (qrs R 8) := hX'.less hB7.size
      have hA8 := hA7.below hb' hA7.lt.2
      have hB8 : Below w.heap.size w v8 := hB7.trans (hb'.mono hB7.size)
      have q8 : W32 (qrs R 8) := W32.rq q7 3 4 9 14
      clear hX' hb' hX7 hA7 hB7 q7
      go_wp2_with fail
      go_roundw
      case rel => exact ⟨k + 1, gx8, cx8, by omega, by go_num, rfl, by rw [rounds20, ← HR.out]; exact hX8, hA8, hB8, by rw [rounds20, ← HR.out]; exact q8⟩
      case measure => simp [intOf]; omega
    · obtain rfl : k = 10 := by omega
      rw [show ((10 : Nat) : Int) = 10 from rfl]
      go_wp2_with fail
      obtain ⟨X, hX⟩ : ∃ R, R = rounds20 A 10 := ⟨_, rfl⟩
      rw [← hX] at hX0 q0
      have HX := Lib.hid hX
      clear hX
      have hgx := hX0.lt
      have hgA := hA0.lt
      have hM : Own (wr.alloc (.cells #[] 5)) w.heap.size 5 .u8 wr.heap.size (4 * 0) 0 (bytesT X A 0) := Own.made rfl hB0.size (by decide) rfl rfl
      have hX1 := hX0.alloc (.cells #[] 5)
      have hA1 := hA0.alloc (.cells #[] 5)
      have hB1 := hB0.alloc hB0.size (.cells #[] 5)
      clear hX0 hB0
      obtain ⟨hgx0, hgx1⟩ := hgx
      obtain ⟨hgA0, hgA1⟩ := hgA
      clear hA0
      have hnx : gx ≠ wr.heap.size := by omega
      have hnA : gA ≠ wr.heap.size := by omega
      go_loopw [10, 50] (fun v i wr => ∃ i' g c : Nat, i' ≤ 16 ∧ i = .int .i64 i' ∧ v = .slice (some ⟨g, 0, none⟩) (4 * i') c ∧ Own wr w.heap.size 5 .u8 g (4 * i') c (bytesT X A i') ∧
          Own wr w.heap.size 30 .u64 gx 16 cx X ∧ Own wr w.heap.size 30 .u64 gA 16 cA A ∧ Below w.heap.size w wr ∧ gx ≠ g ∧ gA ≠ g) (fun _ i _ => 16 - (intOf i).toNat)
      case atStart => exact ⟨0, wr.heap.size, 0, by omega, rfl, rfl, hM, hX1, hA1, hB1, hnx, hnA⟩
      case round =>
        clear hM hX1 hA1 hB1 hnx hnA hgx0 hgx1 hgA0 hgA1
        obtain ⟨i, g, c, hi, rfl, rfl, hO, hX1, hA1, hB1, hnx, hnA⟩ := hrel
        by_cases hlti : i < 16
        · have ii : (i : Int) < 16 := by omega
          have cX := hX1.cell i hlti
          have cA' := hA1.cell i hlti
          obtain ⟨bx0, bx1⟩ := q0 i
          obtain ⟨ba0, ba1⟩ := h32 i
          obtain ⟨e0, e1, e2, e3⟩ := bytes4 X A i
          have E0 := Lib.hid e0; have E1 := Lib.hid e1; have E2 := Lib.hid e2; have E3 := Lib.hid e3
          clear e0 e1 e2 e3
          obtain ⟨wo, rfl⟩ : ∃ wx : World, wx = wr := ⟨_, rfl⟩
          go_wp2_with fail
          go_quiet (fail)
          go_wp2_with (at_builtin; refine wpList_push rfl (.tmp 63) (.tmp 78) 28 rfl 1 Tryd.underlying28 (by kernel_rfl) rfl ((hO.drewN nq).alloc _) ⟨wo.heap.size, 0, none⟩ 4 4 [byteAt X A (4 * i), byteAt X A (4 * i + 1), byteAt X A (4 * i + 2), byteAt X A (4 * i + 3)] rfl rfl (news_whole (Whole.new (t := 5) rfl (by rw [← E0.out, ← E1.out, ← E2.out, ← E3.out]; rfl))) (by omega) (by omega) (by omega) ?_; intro g' c' w9 hO9 hg9 hat9)
          have hgo := hO.lt
          have hgx := hX1.lt
          have hgA := hA1.lt
          go_roundw
          case rel =>
            refine ⟨i + 1, g', c', by omega, by go_num, rfl, by rw [bytesT_succ]; exact hO9, ((hX1.drewN nq).alloc _).only hg9 (ne_some hnx), ((hA1.drewN nq).alloc _).only hg9 (ne_some hnA), ?_, ?_, ?_⟩
            · exact ((below_drawnN hB1 nq).alloc hB1.size _).grown hg9 (by simp; exact Nat.le_succ_of_le hB1.size) (fun q hq => by injection hq with hq; omega)
            · rcases hat9 with h | h
              · rw [h]; exact hnx
              · simp at h; omega
            · rcases hat9 with h | h
              · rw [h]; exact hnA
              · simp at h; omega
          case measure => simp [intOf]; omega
        · obtain rfl : i = 16 := by omega
          have hbt : bytesT X A 16 = blockI (bI key) (ctr % 4294967296) (bI nonce) := by
            rw [blockI_def, layB_map, ← HA.out, ← HX.out]; rfl
          have hl64 := bytesT_length X A 16
          have hcl : ∀ q, q < 64 → wr.cell? ⟨g, 0 + q, none⟩ = some (.int .u8 ((bytesT X A 16).getD q 0)) := fun q hq => by rw [Nat.zero_add]; exact hO.cell q hq
          have hrun := run_convert_bytes_arg (P := Tryd.prog) wr 28 5 Tryd.underlying28 Tryd.underlying5 g 0 64 c (bytesT X A 16) hl64 hcl 9 Tryd.underlying9
          rw [hbt] at hrun
          clear hbt hl64 hcl
          go_wp2
          go_ret
          exact ⟨rfl, hB1⟩
end Go.Proofs.YtfoljmpphbhobaaDoor
