/- The walk of the reference's Xor. -/
import Derived.Test.YtfoljmpphbhobaaDoorRef3
import Derived.Test.YtfoljmpphbhobaaDoorCha4
namespace Go.Proofs.YtfoljmpphbhobaaDoor
open Go.RowKit Go.Spk
set_option linter.unusedVariables false
def xorL (ks : List Int) (ctr : Int) (ns ws : List Int) (n : Nat) : List Int := (List.range n).map (fun n => x8 (ix ws n) (streamI ks ctr ns n))
theorem xorL_succ (ks ctr ns ws n) : xorL ks ctr ns ws (n + 1) = xorL ks ctr ns ws n ++ [x8 (ix ws n) (streamI ks ctr ns n)] := by simp [xorL, List.range_succ]
theorem xorL_length (ks ctr ns ws n) : (xorL ks ctr ns ws n).length = n := by simp [xorL]
/-- The tail of a round: out is appended the byte. -/
theorem layB_mem (X A : List Int) (n : Nat) : ∀ b ∈ layB X A n, 0 ≤ b ∧ b ≤ 255 := by
  induction n with
  | zero => intro b hb; simp [layB] at hb; subst hb; omega
  | succ n ih =>
    intro b hb
    unfold layB at hb
    rcases List.mem_or_eq_of_mem_set hb with h | h
    · exact ih b h
    · subst h; unfold byteAt; omega
theorem blockI_mem (ks : List Int) (c : Int) (ns : List Int) : ∀ b ∈ blockI ks c ns, 0 ≤ b ∧ b ≤ 255 := by
  rw [blockI_def]; exact layB_mem _ _ _
set_option maxRecDepth 100000 in
set_option maxHeartbeats 2000000 in
theorem rxor_calls (key nonce s : ByteArray) (ctr : Int) (hk : key.size = 32) (hn : nonce.size = 12) (h0 : 0 ≤ ctr) (h1 : ctr < 4294967296) (hs : s.size ≤ 100000000) (w : World) :
    Calls Tryd.prog 18 #[.string key, .int .u64 ctr, .string nonce, .string s] w
      fun e w' => e = .returned (.string (strOfNums (xorI (bI key) ctr (bI nonce) (bI s)))) ∧ Below w.heap.size w w' := by
  have HK := Lib.hid hk; have HN := Lib.hid hn; clear hk hn
  have gs : ∀ (n : Nat) (h : n < s.size), ((s[n]'h).toNat : Int) = ix (bI s) n := fun n h => (ix_bI s n h).symm
  have GS := Lib.hid gs
  clear gs
  go_enter Tryd.func18, Tryd.ntmps18
  go_wp2_with fail
  go_loopw [9, 10, 11] (fun v b i wr => ∃ (k g c : Nat) (bs : ByteArray), k ≤ s.size ∧ i = .int .i64 k ∧ b = .string bs ∧ v = .slice (some ⟨g, 0, none⟩) k c ∧
      Own wr w.heap.size 5 .u8 g k c (xorL (bI key) ctr (bI nonce) (bI s) k) ∧ Below w.heap.size w wr ∧ (k % 64 ≠ 0 → bI bs = blockI (bI key) ((ctr + (k / 64 : Nat)) % 4294967296) (bI nonce))) (fun _ _ i _ => s.size - (intOf i).toNat)
  case atStart => exact ⟨0, w.heap.size, 0, _, by omega, rfl, rfl, rfl, Own.made rfl (Nat.le_refl _) (by decide) rfl rfl, (Below.refl _ w).alloc (Nat.le_refl _) _, fun h => absurd rfl h⟩
  case round =>
    obtain ⟨k, g, c, bs, hk, rfl, rfl, rfl, hO, hB, hbs⟩ := hrel
    obtain ⟨wo, rfl⟩ : ∃ wx : World, wx = wr := ⟨_, rfl⟩
    have HBS := Lib.hid hbs
    clear hbs
    by_cases hlt : k < s.size
    · have ii : (k : Int) < s.size := by omega
      by_cases hm : k % 64 = 0
      · have hm' : (k : Int) % 64 = 0 := by omega
        go_wp2_with fail
        refine (rblock_calls key nonce _ HK.out HN.out (by omega) (by omega) _).mono ?_
        rintro e w2 ⟨rfl, hb2⟩
        have hmod : (ctr + (k : Int) / 64) % 4294967296 = (ctr + ((k / 64 : Nat) : Int)) % 4294967296 := by omega
        obtain ⟨bs2, hbs2⟩ : ∃ b, b = strOfNums (blockI (bI key) ((ctr + (k : Int) / 64) % 4294967296) (bI nonce)) := ⟨_, rfl⟩
        have hb3 : bI bs2 = blockI (bI key) ((ctr + ((k / 64 : Nat) : Int)) % 4294967296) (bI nonce) := by rw [hbs2, bI_str (blockI_mem _ _ _), hmod]
        rw [← hbs2]
        have HB2 := Lib.hid hb3
        clear hbs2 hb3 hmod
        have hO2 := hO.below hb2 hO.lt.2
        have hB2 : Below w.heap.size w w2 := hB.trans (hb2.mono hB.size)
        clear hO hB hb2
        go_wp2_with fail
        have hbz : bs2.size = 64 := by rw [← bI_length, HB2.out]; exact blockI_length _ _ _
        have gb : ∀ (n : Nat) (h : n < bs2.size), ((bs2[n]'h).toNat : Int) = ix (bI bs2) n := fun n h => (ix_bI bs2 n h).symm
        have gs := GS.out
        have ex := x8_eq
        have j1 : (k : Int) % 64 < bs2.size := by rw [hbz]; omega
        have j2 : (0 : Int) ≤ (k : Int) % 64 := by omega
        have j3 : ((k : Int) % 64).toNat = k % 64 := by omega
        have HBZ := Lib.hid hbz
        clear hbz
        refine wp_region_pure_tail 9 (by kernel_rfl) (by kernel_rfl) (fun _ _ d _ _ h => by cases d <;> exact h) ?_
        simp only [List.take_succ_cons, List.take_zero, List.drop_succ_cons, List.drop_zero]
        iterate 9 (go_big_quiet_step (fail))
        refine wpQuiet_nil ?_
        clear gs gb ex
        have hbe : x8 (ix (bI s) k) (ix (bI bs2) (k % 64)) = x8 (ix (bI s) k) (streamI (bI key) ctr (bI nonce) k) := by unfold streamI; rw [← HB2.out]
        have HBE := Lib.hid hbe
        clear hbe
        go_wp2_with (at_builtin; refine wpList_push rfl (.tmp 30) (.tmp 39) 28 rfl 1 Tryd.underlying28 (by kernel_rfl) rfl ((hO2.alloc _).drew) ⟨w2.heap.size, 0, none⟩ 1 1 [x8 (ix (bI s) k) (streamI (bI key) ctr (bI nonce) k)] rfl rfl (cell_one (by rw [← HBE.out]; first | (simp; done) | (simp; rw [hm]))) (by omega) (by omega) (by omega) ?_; intro g' c' w9 hO9 hg9 hat9)
        go_roundw
        case rel =>
          exact ⟨k + 1, g', c', bs2, by omega, by go_num, rfl, rfl, by rw [xorL_succ]; exact hO9, (hB2.drew.alloc hB2.size _).grown hg9 (by simp; exact Nat.le_succ_of_le hB2.size) (fun q hq => by injection hq with hq; subst hq; exact hO2.lt.1), fun hne => by rw [HB2.out]; congr 2; omega⟩
        case measure => simp [intOf]; omega
      · have hm' : (k : Int) % 64 ≠ 0 := by omega
        have hm2 : ((k : Int) % 64 == 0) = false := by simpa using hm'
        obtain ⟨bs2, rfl⟩ : ∃ b, b = bs := ⟨_, rfl⟩
        have HB2 := Lib.hid (HBS.out hm)
        go_wp2_with fail
        have hbz : bs2.size = 64 := by rw [← bI_length, HB2.out]; exact blockI_length _ _ _
        have gb : ∀ (n : Nat) (h : n < bs2.size), ((bs2[n]'h).toNat : Int) = ix (bI bs2) n := fun n h => (ix_bI bs2 n h).symm
        have gs := GS.out
        have ex := x8_eq
        have j1 : (k : Int) % 64 < bs2.size := by rw [hbz]; omega
        have j2 : (0 : Int) ≤ (k : Int) % 64 := by omega
        have j3 : ((k : Int) % 64).toNat = k % 64 := by omega
        have HBZ := Lib.hid hbz
        clear hbz
        refine wp_region_pure_tail 9 (by kernel_rfl) (by kernel_rfl) (fun _ _ d _ _ h => by cases d <;> exact h) ?_
        simp only [List.take_succ_cons, List.take_zero, List.drop_succ_cons, List.drop_zero]
        iterate 9 (go_big_quiet_step (fail))
        refine wpQuiet_nil ?_
        clear gs gb ex
        have hbe : x8 (ix (bI s) k) (ix (bI bs2) (k % 64)) = x8 (ix (bI s) k) (streamI (bI key) ctr (bI nonce) k) := by unfold streamI; rw [← HB2.out]
        have HBE := Lib.hid hbe
        clear hbe
        go_wp2_with (at_builtin; refine wpList_push rfl (.tmp 30) (.tmp 39) 28 rfl 1 Tryd.underlying28 (by kernel_rfl) rfl ((hO.alloc _).drew) ⟨wo.heap.size, 0, none⟩ 1 1 [x8 (ix (bI s) k) (streamI (bI key) ctr (bI nonce) k)] rfl rfl (cell_one (by rw [← HBE.out]; first | (simp; done) | (simp; rw [hm]))) (by omega) (by omega) (by omega) ?_; intro g' c' w9 hO9 hg9 hat9)
        go_roundw
        case rel =>
          exact ⟨k + 1, g', c', bs2, by omega, by go_num, rfl, rfl, by rw [xorL_succ]; exact hO9, (hB.drew.alloc hB.size _).grown hg9 (by simp; exact Nat.le_succ_of_le hB.size) (fun q hq => by injection hq with hq; subst hq; exact hO.lt.1), fun hne => by rw [HB2.out]; congr 2; omega⟩
        case measure => simp [intOf]; omega
    · obtain rfl : k = s.size := by omega
      have hbt : xorL (bI key) ctr (bI nonce) (bI s) s.size = xorI (bI key) ctr (bI nonce) (bI s) := by rw [xorI_map, bI_length]; rfl
      rw [hbt] at hO
      have hl64 := hO.len
      have hcl : ∀ q, q < s.size → wo.cell? ⟨g, 0 + q, none⟩ = some (.int .u8 ((xorI (bI key) ctr (bI nonce) (bI s)).getD q 0)) := fun q hq => by rw [Nat.zero_add]; exact hO.cell q hq
      have hrun := run_convert_bytes_arg (P := Tryd.prog) wo 28 5 Tryd.underlying28 Tryd.underlying5 g 0 s.size c (xorI (bI key) ctr (bI nonce) (bI s)) hl64 hcl 9 Tryd.underlying9
      clear hbt hl64 hcl
      go_wp2
      go_ret
      exact ⟨rfl, hB⟩
end Go.Proofs.YtfoljmpphbhobaaDoor
