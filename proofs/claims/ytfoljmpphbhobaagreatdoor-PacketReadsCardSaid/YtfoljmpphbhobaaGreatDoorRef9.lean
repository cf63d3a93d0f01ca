/- The reference of wire and packet: Num, Nonce. -/
import Derived.Test.YtfoljmpphbhobaaGreatDoorPackL
namespace Go.Proofs.YtfoljmpphbhobaaGreatDoor
open Go.RowKit Go.Spk
set_option linter.unusedVariables false
/-- The i lowest bytes of a number, the highest first. -/
def leR (x : Nat) : Nat → List Int
  | 0 => []
  | i + 1 => ((x / 256 ^ i % 256 : Nat) : Int) :: leR x i
theorem leR_length (x i : Nat) : (leR x i).length = i := by
  induction i with
  | zero => rfl
  | succ i ih => rw [leR, List.length_cons, ih]
theorem leR_ix (x i j : Nat) (h : j < i) : ix (leR x i) j = ((x / 256 ^ (i - 1 - j) % 256 : Nat) : Int) := by
  induction i generalizing j with
  | zero => omega
  | succ i ih =>
    cases j with
    | zero => simp [leR, ix]
    | succ j =>
      have e : ix (leR x (i + 1)) (j + 1) = ix (leR x i) j := by simp [leR, ix, List.getD]
      rw [e, ih j (by omega), show i + 1 - 1 - (j + 1) = i - 1 - j by omega]
theorem beT_ix (n m k j : Nat) (h : j < k) : ix (beT n m k) j = ((n / 256 ^ (m - 1 - j) % 256 : Nat) : Int) := by
  induction k with
  | zero => omega
  | succ k ih =>
    rw [beT]
    by_cases hj : j < k
    · rw [ix_append_left _ _ _ (by rw [beT_length]; exact hj), ih hj]
    · obtain rfl : j = k := by omega
      unfold ix
      rw [List.getD_eq_getElem?_getD, List.getElem?_append_right (by rw [beT_length]; exact Nat.le_refl _), beT_length, Nat.sub_self]
      rfl
theorem leR_beT (x n : Nat) : leR x n = beT x n n := by
  refine ix_ext (by rw [leR_length, beT_length]) (fun j hj => ?_)
  rw [leR_length] at hj
  rw [leR_ix x n j hj, beT_ix x n n j hj]
theorem ints_one (k : IntKind) (l : List Int) : ∀ u ∈ l.map (Value.int k), u.oneCell' = true := by
  intro u hu
  obtain ⟨z, _, rfl⟩ := List.mem_map.1 hu
  rfl
theorem num_news {wr : World} {x i g : Nat} {o : Obj} (h : ∀ j, j < i → wr.cell? ⟨g, 0 + j, none⟩ = some (.int .u8 (ix (leR x i) j))) (hg : g < wr.heap.size) :
    ∀ (j : Nat) (u : Value), ((leR x i).map (Value.int .u8))[j]? = some u → (wr.alloc o).cell? ((⟨g, 0, none⟩ : Addr).add j) = some u := by
  intro j u hu
  have hj : j < i := by
    have := (List.getElem?_eq_some_iff.1 hu).1
    rw [List.length_map, leR_length] at this; exact this
  rw [Addr.add_mid, World.cell?_alloc_lt wr o ⟨g, 0 + j, none⟩ hg, h j hj, ← hu]
  simp [ix, List.getD, leR_length, hj]
theorem num_step {w wr w2 : World} {x X i g2 c2 : Nat} (hle : leR x (i + 1) = ((X % 256 : Nat) : Int) :: leR x i) (hb : Below w.heap.size w wr)
    (hg : (wr.alloc (.cells #[.int .u8 ((X : Int) % 256)] 5)).grownBy w2 (Value.slice (some ⟨wr.heap.size, 0, none⟩) 1 1).ownBlock)
    (ho : w2.ownsRow w.heap.size 5 1 (.slice (some ⟨g2, 0, none⟩) (1 + i) c2) (1 + i) ([.int .u8 ((X : Int) % 256)] ++ (leR x i).map (Value.int .u8))) :
    i + 1 ≤ c2 ∧ (∀ j, j < i + 1 → w2.cell? ⟨g2, 0 + j, none⟩ = some (.int .u8 (ix (leR x (i + 1)) j))) ∧ Below w.heap.size w w2 := by
  have hO : Own w2 w.heap.size 5 .u8 g2 (1 + i) c2 (leR x (i + 1)) := by
    unfold Own
    rw [hle, List.map_cons, show ((X % 256 : Nat) : Int) = (X : Int) % 256 by omega]
    exact ho
  refine ⟨by have := hO.room; omega, fun j hj => ?_, ?_⟩
  · rw [Nat.zero_add]; exact hO.cell j (by omega)
  · exact (hb.alloc hb.size _).grown hg (by have := hb.size; simp; omega) (fun k hk => by simp [Value.ownBlock] at hk; subst hk; exact hb.size)
set_option maxRecDepth 100000 in
set_option maxHeartbeats 2000000 in
theorem rnum_calls (x n : Nat) (hx : x < 18446744073709551616) (h1 : 1 ≤ n) (hn : n ≤ 8) (w : World) :
    Calls Tryz.prog 30 #[.int .u64 x, .int .i64 n] w fun e w' => e = .returned (.string (strOfNums (beT x n n))) ∧ Below w.heap.size w w' := by
  obtain ⟨i0, hi, hz0, hz1, hz2⟩ := info_parts infoByte
  have HI := Lib.hid (And.intro hi (And.intro hz0 (And.intro hz1 hz2)))
  have HX := Lib.hid hx
  clear hi hz0 hz1 hz2 hx
  go_enter Tryz.func30, Tryz.ntmps30
  go_wp2_with fail
  go_loopw [0, 5, 6] (fun xv ov iv wr => ∃ (i g c : Nat), i ≤ n ∧ iv = .int .i64 i ∧ xv = .int .u64 ((x / 256 ^ i : Nat) : Int) ∧ ov = .slice (some ⟨g, 0, none⟩) i c ∧ i ≤ c ∧ (∀ j, j < i → wr.cell? ⟨g, 0 + j, none⟩ = some (.int .u8 (ix (leR x i) j))) ∧ w.heap.size ≤ g ∧ g < wr.heap.size ∧ Below w.heap.size w wr) (fun _ _ iv _ => n - (intOf iv).toNat)
  case atStart => exact ⟨0, w.heap.size, 0, by omega, rfl, by simp, rfl, by omega, fun j hj => by omega, by omega, by simp, by go_grown⟩
  case round =>
    obtain ⟨i, g, c, hi, rfl, rfl, rfl, hic, hcell, hg, hgl, hb⟩ := hrel
    have HC := Lib.hid hcell; have HB := Lib.hid hb; have HG := Lib.hid hg; have HGL := Lib.hid hgl
    clear hcell hb hg hgl
    by_cases hlt : i < n
    · have ii : (i : Int) < n := by omega
      obtain ⟨X, hX⟩ : ∃ X, X = x / 256 ^ i := ⟨_, rfl⟩
      have hXb : X < 18446744073709551616 := by rw [hX]; exact Nat.lt_of_le_of_lt (Nat.div_le_self _ _) HX.out
      have hXn : X / 256 = x / 256 ^ (i + 1) := by rw [hX, Nat.pow_succ, Nat.div_div_eq_div_mul]
      have hle : leR x (i + 1) = ((X % 256 : Nat) : Int) :: leR x i := by rw [hX]; rfl
      have hx0 : (0 : Int) ≤ (X : Int) := by omega
      have hx1 : (X : Int) ≤ 18446744073709551615 := by omega
      have HXN := Lib.hid hXn; have HLE := Lib.hid hle
      rw [← hX]
      clear hX hXb hXn hle
      have hlt2 := Nat.le_trans HG.out (Nat.le_of_lt HGL.out)
      have HOW := Lib.hid (show Own (wr.alloc (.cells #[.int .u8 ((X : Int) % 256)] 5)) w.heap.size 5 .u8 wr.heap.size 1 1 [(X : Int) % 256] from Own.made rfl hlt2 (by decide) rfl rfl)
      clear hlt2
      go_wp2_with (first
        | (at_builtin
           refine wpList_append_own _ rfl _ _ 33 rfl w.heap.size 5 i0 (.int .u8 0) 1 1 Tryz.underlying33 HI.out.1 HI.out.2.1 HI.out.2.2.1 HI.out.2.2.2 rfl (by decide) _ 1 [.int .u8 ((X : Int) % 256)] rfl HOW.out ⟨g, 0, none⟩ i c ((leR x i).map (Value.int .u8)) rfl (by rw [List.length_map, leR_length, Nat.mul_one]) (num_news HC.out HGL.out) (ints_one _ _) (by unfold maxLen; omega) (by omega) (by have := HB.out.size; simp; omega) ?_
           intro v' w2 hown' hgrow hnil
           obtain ⟨g2, c2, rfl, hg2, hgl2⟩ := World.ownsRow.form hown' (by omega)
           have HF := Lib.hid (num_step HLE.out HB.out hgrow hown')
           have HG2 := Lib.hid (And.intro hg2 hgl2)
           clear hown' hgrow hnil hg2 hgl2)
        | fail)
      go_roundw
      case rel => exact ⟨i + 1, g2, c2, by omega, by go_num, by rw [← HXN.out]; go_num, by rw [Nat.add_comm 1 i], HF.out.1, HF.out.2.1, HG2.out.1, HG2.out.2, HF.out.2.2⟩
      case measure => simp [intOf]; omega
    · obtain rfl : i = n := by omega
      have hcv := run_convert_bytes_arg (P := Tryz.prog) wr 33 5 Tryz.underlying33 Tryz.underlying5 g 0 i c (leR x i) (leR_length x i) (fun q hq => by rw [HC.out q hq]; rfl) 9 Tryz.underlying9
      rw [leR_beT] at hcv
      go_wp2_with fail
      go_ret
      exact ⟨rfl, HB.out⟩
set_option maxRecDepth 100000 in
set_option maxHeartbeats 2000000 in
theorem rnonce_calls (n : Nat) (hn : n ≤ 1000000000) (w : World) :
    Calls Tryz.prog 32 #[.int .i64 n] w fun e w' => e = .returned (.string (strOfNums (nonceN n))) ∧ Below w.heap.size w w' := by
  obtain ⟨A, hA⟩ : ∃ A, A = strOfNums (beT 0 4 4) := ⟨_, rfl⟩
  obtain ⟨B, hB⟩ : ∃ B, B = strOfNums (beT n 8 8) := ⟨_, rfl⟩
  have hAB : A ++ B = strOfNums (nonceN n) := by rw [hA, hB, ← str_cat]; rfl
  have hc : A.size + B.size ≤ 9223372036854775807 := by rw [hA, hB, str_size, str_size, beT_length, beT_length]; omega
  rw [← hAB]
  have HA := Lib.hid hA; have HB := Lib.hid hB; have HC := Lib.hid hc
  clear hA hB hAB hc
  have hw : IntKind.u64.wrap (n : Int) = (n : Int) := by
    have e : IntKind.u64.wrap (n : Int) = (n : Int) % 18446744073709551616 := by simp [IntKind.wrap, IntKind.bits, IntKind.signed]
    rw [e]; omega
  go_enter Tryz.func32, Tryz.ntmps32
  go_wp2_with fail
  refine (rnum_calls 0 4 (by decide) (by decide) (by decide) w).mono ?_
  rw [← HA.out]
  rintro e W1 ⟨rfl, hb1⟩
  have HB1 := Lib.hid hb1
  clear hb1
  go_wp2_with fail
  refine (rnum_calls n 8 (by omega) (by decide) (by decide) W1).mono ?_
  rw [← HB.out]
  rintro e W2 ⟨rfl, hb2⟩
  have HB2 := Lib.hid (HB1.out.trans (hb2.mono HB1.out.size))
  clear hb2
  have hc := HC.out
  go_wp2_with fail
  go_ret
  exact ⟨rfl, HB2.out⟩
end Go.Proofs.YtfoljmpphbhobaaGreatDoor
