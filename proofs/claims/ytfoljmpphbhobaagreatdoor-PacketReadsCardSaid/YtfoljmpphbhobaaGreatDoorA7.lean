/- The walk of poly's Sum. · The walks of poly's filled, count, mark, Seal. · The walks of poly's mark and Seal. · The walks of poly's Seal and of hmac's Same. · The walk of poly's Open. -/
import Derived.Test.YtfoljmpphbhobaaGreatDoorA6
import Derived.Test.YtfoljmpphbhobaaGreatDoorA2
import Derived.Test.YtfoljmpphbhobaaGreatDoorA5
import Derived.Test.YtfoljmpphbhobaaGreatDoorA4
import Derived.StillTailTactics
import Derived.Laws.Cover3
import Derived.Deep.QuietTactic
import Derived.BigQuiet
namespace Go.Proofs.YtfoljmpphbhobaaGreatDoor
open Go.RowKit Go.Spk
set_option linter.unusedVariables false
theorem num_calls' (s : ByteArray) (hs : s.size ≤ 8) (w : World) :
    Calls Tryz.prog 83 #[.string s] w fun e w' => e = .returned (.int .u64 (nW (bI s) : Nat)) ∧ w = w' := by
  rw [nW_int _ (U8s_bI s)]; exact num_calls s hs w
theorem num_still (s : ByteArray) (hs : s.size ≤ 8) (w : World) :
    Calls Tryz.prog 83 #[.string s] w fun e w' => e = .returned (.int .u64 (nW (bI s) : Nat)) ∧ w' = w :=
  (num_calls' s hs w).mono fun _ _ ⟨h1, h2⟩ => ⟨h1, h2.symm⟩
theorem repeat_zeros (n : Nat) : bI ⟨(Lib.repeatL (ByteArray.mk #[0]).data.toList n).toArray⟩ = List.replicate n 0 := by
  induction n with
  | zero => rfl
  | succ n ih =>
    rw [List.replicate_succ, ← ih]
    rfl
/-- The sum laid byte by byte. -/
def layN (n i : Nat) : List Int := bytesN n i ++ List.replicate (16 - i) 0
theorem layN_length (n i : Nat) (h : i ≤ 16) : (layN n i).length = 16 := by unfold layN; rw [List.length_append, bytesN_length, List.length_replicate]; omega
theorem layN_zero (n : Nat) : layN n 0 = List.replicate 16 0 := rfl
theorem layN_end (n : Nat) : layN n 16 = bytesN n 16 := by unfold layN; simp
theorem layN_set (n i : Nat) (h : i < 16) : (layN n i).set i ((n / 256 ^ i % 256 : Nat) : Int) = layN n (i + 1) := by
  unfold layN
  rw [List.set_append_right _ _ (by rw [bytesN_length]; exact Nat.le_refl _), bytesN_length, Nat.sub_self, show 16 - i = (16 - (i + 1)) + 1 by omega, List.replicate_succ, List.set_cons_zero, bytesN_succ, List.append_assoc]
  rfl
theorem byte_w0 (n i : Nat) (h : i < 8) : w0 n / 2 ^ (8 * i) % 256 = n / 256 ^ i % 256 := by
  unfold w0
  have : i = 0 ∨ i = 1 ∨ i = 2 ∨ i = 3 ∨ i = 4 ∨ i = 5 ∨ i = 6 ∨ i = 7 := by omega
  rcases this with rfl | rfl | rfl | rfl | rfl | rfl | rfl | rfl <;> omega
theorem byte_w1 (n i : Nat) (h : 8 ≤ i) (h2 : i < 16) : w1 n / 2 ^ (8 * (i - 8)) % 256 = n / 256 ^ i % 256 := by
  unfold w1
  have : i = 8 ∨ i = 9 ∨ i = 10 ∨ i = 11 ∨ i = 12 ∨ i = 13 ∨ i = 14 ∨ i = 15 := by omega
  rcases this with rfl | rfl | rfl | rfl | rfl | rfl | rfl | rfl <;> omega
theorem byte_cast (a k : Nat) : (a : Int) / 2 ^ k % 256 = ((a / 2 ^ k % 256 : Nat) : Int) := by simp
theorem sumI_len (A r0 r1 : Nat) : (sumI A r0 r1).length = 5 := rfl
theorem bI_cut (s : ByteArray) (k : Nat) : bI (s.extract k s.size) = (bI s).drop k := by
  simp [bI]
  rw [List.take_of_length_le (by simp)]
theorem bI_mid (s : ByteArray) (a b : Nat) : bI (s.extract a b) = ((bI s).drop a).take (b - a) := by simp [bI]
theorem bI_ext {a b : ByteArray} (h : bI a = bI b) : a = b := by rw [← str_bI a, h, str_bI]
/-- One round's numbers. -/
theorem round_all (A : Nat) (ks ws : List Int) (k r0 r1 lo hi top : Nat) (hR : r0 + 18446744073709551616 * r1 = clampN ks) (b0 : r0 < 1152921504606846976) (b1 : r1 < 1152921504606846976) (hA : A < BB) (hm : A % PP = accN (clampN ks) ws k)
    (hlo : Wd lo) (hhi : Wd hi) (htop : top ≤ 1) (hN : of3 lo hi top = (nb (partI ws k)).toNat) :
    (A + of3 lo hi top) / 18446744073709551616 / 18446744073709551616 < 8 ∧ redN ((A + of3 lo hi top) * (r0 + 18446744073709551616 * r1)) < BB ∧
      redN ((A + of3 lo hi top) * (r0 + 18446744073709551616 * r1)) % PP = accN (clampN ks) ws (k + 1) := by
  have hb : of3 lo hi top < 680564733841876926926749214863536422912 := by unfold of3 Wd at *; omega
  have hr : r0 + 18446744073709551616 * r1 < 21267647932558653966460912964485513216 := by omega
  obtain ⟨h1, h2⟩ := round_bd A (of3 lo hi top) (r0 + 18446744073709551616 * r1) hA hb hr
  refine ⟨h1, h2, ?_⟩
  rw [hR]
  exact round_acc A _ _ ws k hm hN
set_option maxRecDepth 100000 in
set_option maxHeartbeats 4000000 in
theorem psum_calls (ks : List Int) (s : ByteArray) (hk : ks.length = 32) (bk : U8s ks) (hs : s.size ≤ 100000000) (w : World) :
    Calls Tryz.prog 67 #[.agg (rowI .u8 ks), .string s] w fun e w' => e = .returned (.agg (rowI .u8 (polyI ks (bI s)))) ∧ Below w.heap.size w w' := by
  have e1 : (Tryz.prog.info? 25).map (·.size) = some (rowI .u8 ks).size := by rw [rowI_size, hk]; kernel_rfl
  have H1 := Lib.hid e1
  have HK := Lib.hid hk; have BK := Lib.hid bk
  clear e1 hk bk
  go_enter Tryz.func67, Tryz.ntmps67
  go_wp2_with fail
  generalize hW : (w.alloc _).alloc _ = W0
  have hF0 : Below w.heap.size w W0 ∧ Whole W0 w.heap.size 25 (rowI .u8 ks) ∧ Whole W0 (w.heap.size + 1) 129 (rowI .u8 (List.replicate 16 0)) ∧ w.heap.size + 1 < W0.heap.size := by
    subst hW
    exact ⟨by go_grown, (Whole.new rfl rfl).alloc _, Whole.new (by simp) rfl, by simp⟩
  clear hW
  have hcl : ∀ q, q < 32 → W0.cell? ⟨w.heap.size, 0 + q, none⟩ = some (.int .u8 (ks.getD q 0)) := fun q hq => by
    rw [Nat.zero_add, hF0.2.1.at_, rowI_get .u8 ks q (by rw [HK.out]; exact hq)]; rfl
  rw [run_convert_bytes_arg (P := Tryz.prog) W0 33 5 Tryz.underlying33 Tryz.underlying5 w.heap.size 0 32 32 ks HK.out hcl 9 Tryz.underlying9]
  simp only [Result.andThen]
  rw [Oper.upon_value]
  clear hcl
  have HF0 := Lib.hid hF0
  clear hF0
  obtain ⟨key, hkey⟩ : ∃ key, key = strOfNums ks := ⟨_, rfl⟩
  rw [← hkey]
  have hkb : bI key = ks := by rw [hkey, bI_str (mem_of_U8s BK.out)]
  have hks : key.size = 32 := by rw [← bI_length, hkb, HK.out]
  obtain ⟨k0, hk0⟩ : ∃ x, x = key.extract 0 8 := ⟨_, rfl⟩
  obtain ⟨k1, hk1⟩ : ∃ x, x = key.extract 8 16 := ⟨_, rfl⟩
  have hb0 : bI k0 = ks.take 8 := by rw [hk0, ← hkb]; simp [bI]
  have hb1 : bI k1 = (ks.drop 8).take 8 := by rw [hk1, ← hkb]; simp [bI]
  have z0 : k0.size = 8 := by rw [← bI_length, hb0, List.length_take, HK.out]; rfl
  have z1 : k1.size = 8 := by rw [← bI_length, hb1, List.length_take, List.length_drop, HK.out]; rfl
  obtain ⟨r0, hr0⟩ : ∃ r, r = nW (loB (ks.take 8)) := ⟨_, rfl⟩
  obtain ⟨r1, hr1⟩ : ∃ r, r = nW (hiB ((ks.drop 8).take 8)) := ⟨_, rfl⟩
  have c0 : bits .and .u64 (nW (bI k0) : Nat) 1152921487695413247 = (r0 : Int) := by
    have h := u64_and_nat (nW (bI k0)) 1152921487695413247 (nW_wd _ (U8s_bI k0) (by rw [bI_length, z0]; decide)) (by decide)
    rw [clamp_lo _ (U8s_bI k0) (by rw [bI_length, z0]), hb0, ← hr0] at h
    rw [hb0]; exact h
  have c1 : bits .and .u64 (nW (bI k1) : Nat) 1152921487695413244 = (r1 : Int) := by
    have h := u64_and_nat (nW (bI k1)) 1152921487695413244 (nW_wd _ (U8s_bI k1) (by rw [bI_length, z1]; decide)) (by decide)
    rw [clamp_hi _ (U8s_bI k1) (by rw [bI_length, z1]), hb1, ← hr1] at h
    rw [hb1]; exact h
  have hR : r0 + 18446744073709551616 * r1 = clampN ks := by rw [hr0, hr1, ← clamp_words ks BK.out HK.out]
  have b0 : r0 < 1152921504606846976 := by rw [hr0]; exact loB_bd _ (U8s_take BK.out _)
  have b1 : r1 < 1152921504606846976 := by rw [hr1]; exact hiB_bd _ (U8s_take (U8s_drop BK.out _) _)
  have HKEY := Lib.hid hkey; have HKB := Lib.hid hkb; have HKS := Lib.hid hks; have HR := Lib.hid hR; have B0 := Lib.hid b0; have B1 := Lib.hid b1
  have Z0 := Lib.hid z0; have Z1 := Lib.hid z1; have C0 := Lib.hid c0; have C1 := Lib.hid c1
  have E0 := Lib.hid hk0.symm; have E1 := Lib.hid hk1.symm
  clear hkey hkb hks hR b0 b1 z0 z1 c0 c1 hk0 hk1 hb0 hb1 hr0 hr1
  have i8 : (8 : Int) ≤ key.size := by have := HKS.out; omega
  have i16 : (16 : Int) ≤ key.size := by have := HKS.out; omega
  have e0 := E0.out; have e1 := E1.out; have c0 := C0.out; have c1 := C1.out
  go_wp2_with fail
  refine wp_region_still_tail 10 (by kernel_rfl) (by kernel_rfl) ?_
  simp only [List.take_succ_cons, List.take_zero, List.drop_succ_cons, List.drop_zero]
  change wpStill _ _ W0.drew _ _ _
  iterate 2 still_step
  still_call (num_still k0 (by rw [Z0.out]; decide) _)
  iterate 3 still_step
  still_call (num_still k1 (by rw [Z1.out]; decide) _)
  iterate 3 still_step
  refine wpStill_nil ?_
  change wpList _ _ _ _ _ W0.drew
  go_wp2_with fail
  refine name_wp (fun W => Below w.heap.size w W ∧ Whole W (w.heap.size + 1) 129 (rowI .u8 (List.replicate 16 0)) ∧ Whole W W0.heap.size 167 (rowI .u64 (sumI 0 r0 r1)))
    ⟨(HF0.out.1.alloc HF0.out.1.size _).trans (below_drawnN (Below.refl _ _) 1 : Below _ _ _), (HF0.out.2.2.1.alloc _).drew, (Whole.new (cs' := _) rfl rfl).drew⟩ ?_
  obtain ⟨g, hg⟩ : ∃ g, g = W0.heap.size := ⟨_, rfl⟩
  have hgz : w.heap.size + 1 < g := by rw [hg]; exact HF0.out.2.2.2
  rw [← hg]
  have HGZ := Lib.hid hgz
  clear hg hgz HF0 c0 c1 e0 e1 i8 i16
  intro W1 hF1
  have HF1 := Lib.hid hF1
  clear hF1
  go_loopw [1] (fun v wr => ∃ k A : Nat, 16 * k ≤ s.size ∧ v = .string (s.extract (16 * k) s.size) ∧ A % PP = accN (clampN ks) (bI s) k ∧ A < BB ∧ W1.grownBy wr (some g) ∧ Whole wr g 167 (rowI .u64 (sumI A r0 r1))) (fun v _ => match v with | .string t => t.size | _ => 0)
  case atStart => exact ⟨0, 0, by omega, by rw [show s.extract (16 * 0) s.size = s from bI_ext (by rw [bI_cut]; rfl)], by simp [accN], by decide +kernel, World.grownBy.refl _ _, HF1.out.2.2⟩
  case round =>
    obtain ⟨k, A, hk, rfl, hm, hAB, hgr, hw⟩ := hrel
    obtain ⟨t, ht⟩ : ∃ t, t = s.extract (16 * k) s.size := ⟨_, rfl⟩
    have htb : bI t = (bI s).drop (16 * k) := by rw [ht, bI_cut]
    have hts : t.size = s.size - 16 * k := by rw [← bI_length, htb, List.length_drop, bI_length]
    rw [← ht]
    have HM := Lib.hid hm; have HAB := Lib.hid hAB; have HGR := Lib.hid hgr; have HW := Lib.hid hw
    have HT := Lib.hid ht; have HTB := Lib.hid htb; have HTS := Lib.hid hts
    clear hm hAB hgr hw ht htb
    by_cases h16 : 16 ≤ t.size
    · have i16 : (16 : Int) ≤ t.size := by omega
      have i8 : (8 : Int) ≤ t.size := by omega
      obtain ⟨p0, hp0⟩ : ∃ x, x = t.extract 0 8 := ⟨_, rfl⟩
      obtain ⟨p1, hp1⟩ : ∃ x, x = t.extract 8 16 := ⟨_, rfl⟩
      have hb0 : bI p0 = ((bI s).drop (16 * k)).take 8 := by rw [hp0, bI_mid, HTB.out]; rfl
      have hb1 : bI p1 = (((bI s).drop (16 * k)).drop 8).take 8 := by rw [hp1, bI_mid, HTB.out]
      have z0 : p0.size ≤ 8 := by rw [← bI_length, hb0, List.length_take]; omega
      have z1 : p1.size ≤ 8 := by rw [← bI_length, hb1, List.length_take]; omega
      have hN : of3 (nW (bI p0)) (nW (bI p1)) 1 = (nb (partI (bI s) k)).toNat := by
        rw [hb0, hb1]
        exact part_whole _ _ (U8s_bI s) (by rw [bI_length]; omega)
      have w0' := nW_wd _ (U8s_bI p0) (by rw [bI_length]; exact z0)
      have w1' := nW_wd _ (U8s_bI p1) (by rw [bI_length]; exact z1)
      obtain ⟨q1, q2, q3⟩ := round_all A ks (bI s) k r0 r1 _ _ 1 HR.out B0.out B1.out HAB.out HM.out w0' w1' (by decide) hN
      have hnx : t.extract 16 t.size = s.extract (16 * (k + 1)) s.size := bI_ext (by rw [bI_cut, bI_cut, HTB.out, List.drop_drop, Nat.mul_add])
      have hnz : (s.extract (16 * (k + 1)) s.size).size = t.size - 16 := by rw [← bI_length, bI_cut, List.length_drop, bI_length]; omega
      have hk1 : 16 * (k + 1) ≤ s.size := by omega
      have Z0 := Lib.hid z0; have Z1 := Lib.hid z1; have Q := Lib.hid (And.intro q1 (And.intro q2 q3)); have WW := Lib.hid (And.intro w0' w1')
      have HNZ := Lib.hid hnz; have E0 := Lib.hid hp0.symm; have E1 := Lib.hid hp1.symm; have HNX := Lib.hid hnx; have HK1 := Lib.hid hk1; have H16 := Lib.hid h16
      clear hb0 hb1 z0 z1 hN w0' w1' q1 q2 q3 hnx hnz hp0 hp1 hk1 hts h16
      have e0 := E0.out; have e1 := E1.out; have hnx := HNX.out
      go_wp2_with fail
      refine wp_region_still_tail 7 (by kernel_rfl) (by kernel_rfl) ?_
      simp only [List.take_succ_cons, List.take_zero, List.drop_succ_cons, List.drop_zero]
      change wpStill _ _ wr.drew _ _ _
      iterate 3 still_step
      still_call (num_still p0 Z0.out _)
      iterate 2 still_step
      still_call (num_still p1 Z1.out _)
      refine wpStill_nil ?_
      change wpList _ _ _ _ _ wr.drew
      go_wp2_with fail
      refine (sadd_calls g _ A r0 r1 _ _ 1 WW.out.1 WW.out.2 (by decide) wr.drew HW.out.drew).mono ?_
      rintro e W2 ⟨rfl, U2⟩
      have HU2 := Lib.hid U2
      clear U2
      go_wp2_with fail
      refine (smul_calls g _ _ r0 r1 Q.out.1 B0.out B1.out W2 HU2.out.blk).mono ?_
      rintro e W3 ⟨rfl, hg3, hw3⟩
      have HG3 := Lib.hid hg3; have HW3 := Lib.hid hw3
      clear hg3 hw3
      go_wp2_with fail
      go_roundw
      case rel => exact ⟨k + 1, _, HK1.out, rfl, Q.out.2.2, Q.out.2.1, only_trans (only_trans (only_drawn HGR.out) HU2.out.only) HG3.out, HW3.out⟩
      case measure => simp [HNZ.out]; have := H16.out; omega
    · have i16 : ¬ (16 : Int) ≤ t.size := by omega
      have hR2 := HR.out
      by_cases ht0 : t.size = 0
      case' pos =>
        have hte : t = { data := #[] } := bI_ext (List.eq_nil_of_length_eq_zero (by rw [bI_length]; exact ht0))
        have hpk : k = ((bI s).length + 15) / 16 := by rw [bI_length]; omega
        obtain ⟨A', hA'⟩ : ∃ A', A' = A := ⟨_, rfl⟩
        have HM' := Lib.hid (show A' % PP = accN (clampN ks) (bI s) (((bI s).length + 15) / 16) by rw [← hpk, hA']; exact HM.out)
        have HAB' := Lib.hid (show A' < BB by rw [hA']; exact HAB.out)
        have HW' := Lib.hid (show Whole wr g 167 (rowI .u64 (sumI A' r0 r1)) by rw [hA']; exact HW.out)
        have HGR' := Lib.hid (show W1.grownBy wr (some g) from HGR.out)
        subst hte
        clear hA' hpk ht0 hts hR2 i16
        have i16 : ¬ (16 : Int) ≤ ((0 : Nat) : Int) := by omega
        go_wp2_with fail
        generalize wr = W' at HW' HGR' ⊢
      case' neg =>
        have hne : ¬ t.toList = [] := fun h => ht0 (by rw [ByteArray.toList_eq] at h; have := congrArg List.length h; simpa using this)
        have hne3 : t.toList.isEmpty = false := by simpa using hne
        have hne4 : (!t.toList.isEmpty) = true := by simpa using hne
        have hne2 := toList_ne (b := { data := #[] }) (fun h : t = { data := #[] } => ht0 (by rw [h]; rfl))
        obtain ⟨c, hc⟩ : ∃ c : Nat, c = 15 - t.size := ⟨_, rfl⟩
        have i15 : (15 : Int) - t.size = c := by omega
        have z1 : (ByteArray.mk #[1]).size = 1 := rfl
        have hcs : t.size + (ByteArray.mk #[1]).size ≤ 100 := by omega
        have hpk : k + 1 = ((bI s).length + 15) / 16 := by rw [bI_length]; omega
        obtain ⟨zs, hzs⟩ : ∃ zs, zs = (⟨(Lib.repeatL (ByteArray.mk #[0]).data.toList c).toArray⟩ : ByteArray) := ⟨_, rfl⟩
        have hzb : bI zs = List.replicate c 0 := by rw [hzs, repeat_zeros]
        have hzz : zs.size = c := by rw [← bI_length, hzb, List.length_replicate]
        obtain ⟨rs, hrs⟩ : ∃ rs, rs = t ++ ByteArray.mk #[1] ++ zs := ⟨_, rfl⟩
        have hrb : bI rs = (bI t ++ [1]) ++ List.replicate c 0 := by rw [hrs, bI_cat, bI_cat, hzb]; rfl
        have hrz : rs.size = 16 := by rw [← bI_length, hrb, List.length_append, List.length_append, List.length_replicate, bI_length]; simp; omega
        have hcs2 : (t ++ ByteArray.mk #[1]).size + zs.size ≤ 200 := by rw [ByteArray.size_append, hzz]; omega
        obtain ⟨p0, hp0⟩ : ∃ x, x = rs.extract 0 8 := ⟨_, rfl⟩
        obtain ⟨p1, hp1⟩ : ∃ x, x = rs.extract 8 rs.size := ⟨_, rfl⟩
        have hb0 : bI p0 = (bI rs).take 8 := by rw [hp0, bI_mid]; rfl
        have hb1 : bI p1 = (bI rs).drop 8 := by rw [hp1, bI_cut]
        have y0 : p0.size ≤ 8 := by rw [← bI_length, hb0, List.length_take]; omega
        have y1 : p1.size ≤ 8 := by rw [← bI_length, hb1, List.length_drop, bI_length]; omega
        have hN : of3 (nW (bI p0)) (nW (bI p1)) 0 = (nb (partI (bI s) k)).toNat := by
          rw [hb0, hb1, part_last (bI rs) (U8s_bI rs) (by rw [bI_length, hrz]) c _ hrb]
          unfold partI
          rw [HTB.out, List.take_of_length_le (by rw [List.length_drop, bI_length]; omega)]
        have w0' := nW_wd _ (U8s_bI p0) (by rw [bI_length]; exact y0)
        have w1' := nW_wd _ (U8s_bI p1) (by rw [bI_length]; exact y1)
        obtain ⟨q1, q2, q3⟩ := round_all A ks (bI s) k r0 r1 _ _ 0 HR.out B0.out B1.out HAB.out HM.out w0' w1' (by decide) hN
        rw [hpk] at q3
        have Y0 := Lib.hid y0; have Y1 := Lib.hid y1; have Q1 := Lib.hid q1; have HAB' := Lib.hid q2; have HM' := Lib.hid q3; have WW := Lib.hid (And.intro w0' w1')
        have E0 := Lib.hid hp0.symm; have E1 := Lib.hid hp1.symm; have HZS := Lib.hid hzs; have HRS := Lib.hid hrs.symm; have HCS2 := Lib.hid hcs2; have HC := Lib.hid hc; have I8 := Lib.hid (show (8 : Int) ≤ rs.size by omega)
        clear hR2 hc hpk hzs hzb hzz hrs hrb hrz hcs2 hp0 hp1 hb0 hb1 y0 y1 hN w0' w1' q1 q2 q3 hts ht0 z1
        go_wp2_with fail
        refine (Tryz.strings_Repeat ⟨#[0]⟩ c wr (by have := HC.out; omega) (by have := HC.out; show 1 * c ≤ _; omega)).mono ?_
        rw [← HZS.out]
        rintro e W2 ⟨rfl, hb2⟩
        have HGR2 := Lib.hid (only_trans HGR.out (only_of_below hb2 _)); have HW2 := Lib.hid (HW.out.below hb2 HW.out.inside)
        have hcs2 := HCS2.out; have hrs := HRS.out; have i8 := I8.out; have e0 := E0.out; have e1 := E1.out
        clear hb2
        go_wp2_with fail
        refine wp_region_still_tail 7 (by kernel_rfl) (by kernel_rfl) ?_
        simp only [List.take_succ_cons, List.take_zero, List.drop_succ_cons, List.drop_zero]
        change wpStill _ _ W2.drew _ _ _
        iterate 3 still_step
        still_call (num_still p0 Y0.out _)
        iterate 2 still_step
        still_call (num_still p1 Y1.out _)
        refine wpStill_nil ?_
        change wpList _ _ _ _ _ W2.drew
        go_wp2_with fail
        refine (sadd_calls g _ A r0 r1 _ _ 0 WW.out.1 WW.out.2 (by decide) W2.drew HW2.out.drew).mono ?_
        rintro e W3 ⟨rfl, U3⟩
        have HU3 := Lib.hid U3
        clear U3
        go_wp2_with fail
        refine (smul_calls g _ _ r0 r1 Q1.out B0.out B1.out W3 HU3.out.blk).mono ?_
        rintro e W4 ⟨rfl, hg4, hw4⟩
        have HW' := Lib.hid hw4
        have HGR' := Lib.hid (only_trans (only_trans (only_drawn HGR2.out) HU3.out.only) hg4)
        clear hg4 hw4
        go_wp2_with fail
        generalize redN ((A + of3 (nW (bI p0)) (nW (bI p1)) 0) * (r0 + 18446744073709551616 * r1)) = A' at HM' HAB' HW'
        generalize W4 = W' at HW' HGR' ⊢
      all_goals
        refine (sless_calls g _ A' r0 r1 (BB_words A' HAB'.out) W' HW'.out).mono ?_
        rw [less_mod A' HAB'.out, HM'.out]
        rintro e W5 ⟨rfl, U5⟩
        obtain ⟨k2, hk2⟩ : ∃ x, x = key.extract 16 24 := ⟨_, rfl⟩
        obtain ⟨k3, hk3⟩ : ∃ x, x = key.extract 24 key.size := ⟨_, rfl⟩
        have hb2 : bI k2 = (ks.drop 16).take 8 := by rw [hk2, bI_mid, HKB.out]
        have hb3 : bI k3 = (ks.drop 16).drop 8 := by rw [hk3, bI_cut, HKB.out, List.drop_drop]
        have y2 : k2.size ≤ 8 := by rw [← bI_length, hb2, List.length_take]; omega
        have y3 : k3.size ≤ 8 := by rw [← bI_length, hb3, List.length_drop, List.length_drop, HK.out]; decide
        have w2' := nW_wd _ (U8s_bI k2) (by rw [bI_length]; exact y2)
        have w3' := nW_wd _ (U8s_bI k3) (by rw [bI_length]; exact y3)
        have hN : accN (clampN ks) (bI s) (((bI s).length + 15) / 16) + of3 (nW (bI k2)) (nW (bI k3)) 0 = polyN ks (bI s) := by
          unfold polyN
          congr 1
          rw [hb2, hb3, part_last (ks.drop 16) (U8s_drop BK.out _) (by rw [List.length_drop, HK.out]) 0 (ks.drop 16) (by simp)]
        have Y2 := Lib.hid y2; have Y3 := Lib.hid y3; have WW' := Lib.hid (And.intro w2' w3'); have HN := Lib.hid hN
        have HU5 := Lib.hid U5
        have j1 : (24 : Int) ≤ key.size := by have := HKS.out; omega
        have e2 := hk2.symm; have e3 := hk3.symm
        clear hk2 hk3 hb2 hb3 y2 y3 w2' w3' hN U5
        go_wp2_with fail
        refine wp_region_still_tail 7 (by kernel_rfl) (by kernel_rfl) ?_
        simp only [List.take_succ_cons, List.take_zero, List.drop_succ_cons, List.drop_zero]
        change wpStill _ _ W5.drew _ _ _
        iterate 3 still_step
        still_call (num_still k2 Y2.out _)
        iterate 2 still_step
        still_call (num_still k3 Y3.out _)
        refine wpStill_nil ?_
        change wpList _ _ _ _ _ W5.drew
        clear e2 e3 j1
        go_wp2_with fail
        refine (sadd_calls g _ _ r0 r1 _ _ 0 WW'.out.1 WW'.out.2 (by decide) W5.drew HU5.out.blk.drew).mono ?_
        rw [HN.out]
        rintro e W6 ⟨rfl, U6⟩
        have hgr6 := only_trans (only_trans HGR'.out (only_drawn HU5.out.only)) U6.only
        have HU6 := Lib.hid U6.blk
        have HB6 := Lib.hid (HF1.out.1.grown hgr6 HF1.out.1.size (fun q hq => by injection hq with hq; have := HGZ.out; omega))
        have HR6 := Lib.hid (HF1.out.2.1.only hgr6 (ne_some (by have := HGZ.out; omega)))
        clear hgr6 U6
        go_wp2_with fail
        obtain ⟨go, hgo⟩ : ∃ go, go = W6.heap.size := ⟨_, rfl⟩
        have l1 : g < go := by rw [hgo]; exact HU6.out.inside
        have l2 : w.heap.size + 1 < go := by have := HGZ.out; omega
        refine name_wp (fun W => Below w.heap.size w W ∧ Whole W (w.heap.size + 1) 129 (rowI .u8 (List.replicate 16 0)) ∧ Whole W g 167 (rowI .u64 (sumI (polyN ks (bI s)) r0 r1)) ∧ Whole W go 129 (rowI .u8 (List.replicate 16 0)))
          ⟨HB6.out.alloc HB6.out.size _, HR6.out.alloc _, HU6.out.alloc _, Whole.new hgo.symm rfl⟩ ?_
        rw [← hgo]
        have L1 := Lib.hid l1; have L2 := Lib.hid l2
        clear HB6 HR6 HU6 hgo l1 l2 HU5
        intro W7 ⟨hB7, hr7, hu7, ho7⟩
        have hpolyl : bytesN (polyN ks (bI s)) 16 = polyI ks (bI s) := rfl
        obtain ⟨N, hNN⟩ : ∃ N, N = polyN ks (bI s) := ⟨_, rfl⟩
        rw [← hNN] at hu7 hpolyl
        have HPL := Lib.hid hpolyl; have HB7 := Lib.hid hB7; have HR7 := Lib.hid hr7; have HU7 := Lib.hid hu7; have HO7 := Lib.hid ho7
        clear hNN hpolyl hB7 hr7 hu7 ho7
        go_loopw [67] (fun i wr => ∃ n : Nat, n ≤ 16 ∧ i = .int .i64 n ∧ Upd W7 wr go 129 .u8 (layN N n)) (fun i _ => 16 - (intOf i).toNat)
        case atStart => exact ⟨0, by omega, rfl, by rw [layN_zero]; exact Upd.start HO7.out⟩
        case round =>
          obtain ⟨n, hn, rfl, U⟩ := hrel
          have hll := layN_length N n hn
          have HU := Lib.hid U; have HLL := Lib.hid hll
          clear U hll
          by_cases h1 : n < 16
          · have i1 : (n : Int) < 16 := by omega
            have cO := HU.out.cell n (by rw [HLL.out]; exact h1)
            have fO := HU.out.frozen n
            have hst := layN_set N n h1
            have HST := Lib.hid hst
            clear hst
            by_cases h8 : n < 8
            · have cw : _root_.Go.World.cell? wr ⟨g, 0, none⟩ = some (.int .u64 (w0 N : Nat)) := (HU.out.other HU7.out (by have := L1.out; omega)).int 0 (by rw [sumI_len]; decide)
              have d1 : (n : Int) / 8 = 0 := by omega
              have d2 : (n : Int) % 8 = n := by omega
              have hbv := byte_w0 N n h8
              have HBV := Lib.hid hbv
              clear hbv
              go_wp2_with fail
              go_roundw
              case rel => exact ⟨n + 1, by omega, by go_num, by rw [byte_cast, HBV.out, ← HST.out]; exact HU.out.set n _⟩
              case measure => simp [intOf]; omega
            · have cw : _root_.Go.World.cell? wr ⟨g, 1, none⟩ = some (.int .u64 (w1 N : Nat)) := (HU.out.other HU7.out (by have := L1.out; omega)).int 1 (by rw [sumI_len]; decide)
              obtain ⟨m, hm⟩ : ∃ m, m = n - 8 := ⟨_, rfl⟩
              have d1 : (n : Int) / 8 = 1 := by omega
              have d2 : (n : Int) % 8 = m := by omega
              have hbv := byte_w1 N n (by omega) h1
              rw [← hm] at hbv
              have d3 : m < 8 := by omega
              have HBV := Lib.hid hbv
              clear hbv hm
              go_wp2_with fail
              go_roundw
              case rel => exact ⟨n + 1, by omega, by go_num, by rw [byte_cast, HBV.out, ← HST.out]; exact HU.out.set n _⟩
              case measure => simp [intOf]; omega
          · obtain rfl : n = 16 := by omega
            have ho := HU.out.blk
            rw [layN_end, HPL.out] at ho
            have hB8 := HU.out.below HB7.out (by have := L2.out; omega) HB7.out.size
            have hr8 := HU.out.other HR7.out (by have := L2.out; omega)
            obtain ⟨Z, hZ⟩ : ∃ Z, Z = polyI ks (bI s) := ⟨_, rfl⟩
            have hZl : Z.length = 16 := by rw [hZ]; exact bytesN_length _ _
            rw [← hZ] at ho
            have hs16 : (Tryz.prog.info? 129).map (·.size) = some (rowI .u8 Z).size := by rw [rowI_size, hZl]; kernel_rfl
            have HZ := Lib.hid hZ; have HS := Lib.hid hs16; have HZL := Lib.hid hZl
            clear hZ hs16 hZl
            go_wp2_with (first
              | (refine wpList_load_row rfl 129 (.tmp 8) rfl _ rfl 129 (rowI .u8 Z) (0, 0) _ ho Tryz.underlying129 rfl HS.out ?_)
              | (refine wpList_store_row rfl 129 (.tmp 4) (.tmp 85) rfl (w.heap.size + 1) (rowI .u8 Z) rfl rfl 129 _ hr8 HS.out (by simp [rowI_size, HZL.out]) (rowI_one _ _) ?_))
            refine bodyPost_ret (results_cell_row (fn := Tryz.f67) (p := 4) rfl _ _ (w.heap.size + 1) 129 (rowI .u8 Z) (0, 0) _ rfl (Whole.row hr8) Tryz.underlying129 rfl HS.out) rfl ⟨by rw [HZ.out], ?_⟩
            exact hB8.grown (only_row wr (w.heap.size + 1) _) hB8.size (fun k hk => by injection hk with hk; omega)
end Go.Proofs.YtfoljmpphbhobaaGreatDoor
namespace Go.Proofs.YtfoljmpphbhobaaGreatDoor
open Go.RowKit Go.Spk
set_option linter.unusedVariables false
set_option maxRecDepth 100000 in
set_option maxHeartbeats 1000000 in
theorem pfilled_calls (s : ByteArray) (hs : s.size ≤ 10000000) (w : World) :
    Calls Tryz.prog 68 #[.string s] w fun e w' => e = .returned (.string (strOfNums (fillI (bI s)))) ∧ Below w.heap.size w w' := by
  obtain ⟨c, hc⟩ : ∃ c, c = padN s.size := ⟨_, rfl⟩
  have hcb : c ≤ 16 := by rw [hc]; unfold padN; omega
  have i1 : (16 - (s.size : Int) % 16) % 16 = c := by rw [hc]; unfold padN; omega
  obtain ⟨zs, hzs⟩ : ∃ zs, zs = (⟨(Lib.repeatL (ByteArray.mk #[0]).data.toList c).toArray⟩ : ByteArray) := ⟨_, rfl⟩
  have hzb : bI zs = List.replicate c 0 := by rw [hzs, repeat_zeros]
  have hzz : zs.size = c := by rw [← bI_length, hzb, List.length_replicate]
  have hcat : s ++ zs = strOfNums (fillI (bI s)) := by
    apply bI_ext
    rw [bI_cat, hzb, bI_str (fillI_mem _ (mem_of_U8s (U8s_bI s)))]
    unfold fillI
    rw [bI_length, hc]
  have hcs : s.size + zs.size ≤ 10000100 := by omega
  have HZS := Lib.hid hzs; have HCAT := Lib.hid hcat; have HCB := Lib.hid hcb
  clear hc hzs hzb hzz hcat hcb
  go_enter Tryz.func68, Tryz.ntmps68
  go_wp2_with fail
  refine (Tryz.strings_Repeat ⟨#[0]⟩ c w (by have := HCB.out; omega) (by have := HCB.out; show 1 * c ≤ _; omega)).mono ?_
  rw [← HZS.out]
  rintro e w1 ⟨rfl, hB⟩
  have HB := Lib.hid hB
  clear hB
  go_wp2_with fail
  go_ret
  exact ⟨by rw [← HCAT.out]; rfl, HB.out⟩
/-- The count laid byte by byte. -/
def cntN (n i : Nat) : List Int := bytesN n i ++ List.replicate (8 - i) 0
theorem cntN_length (n i : Nat) (h : i ≤ 8) : (cntN n i).length = 8 := by unfold cntN; rw [List.length_append, bytesN_length, List.length_replicate]; omega
theorem cntN_end (n : Nat) : cntN n 8 = bytesN n 8 := by unfold cntN; simp
theorem cntN_set (n i : Nat) (h : i < 8) : (cntN n i).set i ((n / 256 ^ i % 256 : Nat) : Int) = cntN n (i + 1) := by
  unfold cntN
  rw [List.set_append_right _ _ (by rw [bytesN_length]; exact Nat.le_refl _), bytesN_length, Nat.sub_self, show 8 - i = (8 - (i + 1)) + 1 by omega, List.replicate_succ, List.set_cons_zero, bytesN_succ, List.append_assoc]
  rfl
theorem byte_pow (n i : Nat) : n / 2 ^ (8 * i) % 256 = n / 256 ^ i % 256 := by
  rw [Nat.pow_mul]
set_option maxRecDepth 100000 in
set_option maxHeartbeats 1000000 in
theorem pcount_calls (n : Nat) (hn : n ≤ 10000000) (w : World) :
    Calls Tryz.prog 69 #[.int .i64 n] w fun e w' => e = .returned (.string (strOfNums (bytesN n 8))) ∧ Below w.heap.size w w' := by
  have hw : IntKind.u64.wrap (n : Int) = n := by rw [IntKind.wrap_u64]; omega
  go_enter Tryz.func69, Tryz.ntmps69
  go_wp2_with fail
  go_outline
  refine name_wp (fun W => Below w.heap.size w W ∧ Whole W w.heap.size 169 (rowI .u8 (List.replicate 8 0))) ⟨(Below.refl _ w).alloc (Nat.le_refl _) _, Whole.new rfl rfl⟩ ?_
  intro W1 ⟨hB1, ho1⟩
  have HB1 := Lib.hid hB1; have HO1 := Lib.hid ho1
  clear hB1 ho1
  go_loopw [5] (fun i wr => ∃ k : Nat, k ≤ 8 ∧ i = .int .i64 k ∧ Upd W1 wr w.heap.size 169 .u8 (cntN n k)) (fun i _ => 8 - (intOf i).toNat)
  case atStart => exact ⟨0, by omega, rfl, Upd.start HO1.out⟩
  case round =>
    obtain ⟨k, hk, rfl, U⟩ := hrel
    have HU := Lib.hid U; have HLL := Lib.hid (cntN_length n k hk)
    clear U
    by_cases h1 : k < 8
    · have i1 : (k : Int) < 8 := by omega
      have cO := HU.out.cell k (by rw [HLL.out]; exact h1)
      have fO := HU.out.frozen k
      have HST := Lib.hid (cntN_set n k h1)
      go_wp2_with fail
      go_roundw
      case rel => exact ⟨k + 1, by omega, by go_num, by rw [byte_cast, byte_pow, ← HST.out]; exact HU.out.set k _⟩
      case measure => simp [intOf]; omega
    · obtain rfl : k = 8 := by omega
      have ho := HU.out.blk
      rw [cntN_end] at ho
      have hB2 := HU.out.below HB1.out (Nat.le_refl _) HB1.out.size
      have hcl : ∀ q, q < 8 → wr.cell? ⟨w.heap.size, 0 + q, none⟩ = some (.int .u8 ((bytesN n 8).getD q 0)) := fun q hq => by
        rw [Nat.zero_add, ho.at_, rowI_get .u8 _ q (by rw [bytesN_length]; exact hq)]; rfl
      have hrun := run_convert_bytes_arg (P := Tryz.prog) wr 33 5 Tryz.underlying33 Tryz.underlying5 w.heap.size 0 8 8 (bytesN n 8) (bytesN_length _ _) hcl 9 Tryz.underlying9
      have HB2 := Lib.hid hB2
      clear hcl ho hB2
      go_wp2_with fail
      go_ret
      exact ⟨rfl, HB2.out⟩
end Go.Proofs.YtfoljmpphbhobaaGreatDoor
namespace Go.Proofs.YtfoljmpphbhobaaGreatDoor
open Go.RowKit Go.Spk
set_option linter.unusedVariables false
theorem take_part (Z : List Int) (n : Nat) (j : Nat) (v : Value) (h : (rowI .u8 (Z.take n))[j]? = some v) : (rowI .u8 Z)[j]? = some v := by
  have hj : j < (Z.take n).length := by
    have := (Array.getElem?_eq_some_iff.1 h).1
    rwa [rowI_size] at this
  rw [rowI_get .u8 _ j hj] at h
  rw [List.length_take] at hj
  rw [rowI_get .u8 _ j (by omega), ← h]
  congr 2
  unfold ix
  simp [List.getD, show j < n by omega]
set_option maxRecDepth 100000 in
set_option maxHeartbeats 2000000 in
theorem pmark_calls (ks ns : List Int) (sealed extra : ByteArray) (hk : ks.length = 32) (hn : ns.length = 12) (bk : U8s ks) (bn : U8s ns) (hs : sealed.size ≤ 1000000) (he : extra.size ≤ 1000000) (w : World)
   (t0 : w.rangeAt 21 0 (beginI.map (Value.int .u32))) (t1 : w.rangeAt 22 0 orderC) :
    Calls Tryz.prog 48 #[.agg (rowI .u8 ks), .agg (rowI .u8 ns), .string sealed, .string extra] w
      fun e w' => e = .returned (.string (strOfNums (markI ks ns (bI sealed) (bI extra)))) ∧ Below w.heap.size w w' := by
  have T0 := Lib.hid t0; have T1 := Lib.hid t1; clear t0 t1
  have H1 := Lib.hid (show (Tryz.prog.info? 25).map (·.size) = some (rowI .u8 ks).size by rw [rowI_size, hk]; kernel_rfl)
  have H2 := Lib.hid (show (Tryz.prog.info? 70).map (·.size) = some (rowI .u8 ns).size by rw [rowI_size, hn]; kernel_rfl)
  have HK := Lib.hid hk; have HN := Lib.hid hn; have BK := Lib.hid bk; have BN := Lib.hid bn
  clear hk hn bk bn
  obtain ⟨M, hM⟩ : ∃ M, M = markI ks ns (bI sealed) (bI extra) := ⟨_, rfl⟩
  have hMl : M.length = 16 := by rw [hM]; exact markI_length _ _ _ _
  have H5 := Lib.hid (show (Tryz.prog.info? 129).map (·.size) = some (rowI .u8 M).size by rw [rowI_size, hMl]; kernel_rfl)
  rw [← hM]
  have HM := Lib.hid hM; have HML := Lib.hid hMl
  clear hM hMl
  go_enter Tryz.func48, Tryz.ntmps48
  have hk0 : Whole ((w.alloc (.cells (rowI .u8 ks) 25)).alloc (.cells (rowI .u8 ns) 70)) w.heap.size 25 (rowI .u8 ks) := (Whole.new rfl rfl).alloc _
  have hn0 : Whole ((w.alloc (.cells (rowI .u8 ks) 25)).alloc (.cells (rowI .u8 ns) 70)) (w.heap.size + 1) 70 (rowI .u8 ns) := Whole.new (by simp) rfl
  go_wp2_with (first
    | (refine wpList_load_row rfl 25 (.tmp 4) rfl _ rfl 25 (rowI .u8 ks) (0, 0) _ hk0 Tryz.underlying25 rfl H1.out ?_)
    | (refine wpList_load_row rfl 70 (.tmp 5) rfl _ rfl 70 (rowI .u8 ns) (0, 0) _ hn0 Tryz.underlying70 rfl H2.out ?_)
    | fail)
  generalize hW : (w.alloc _).alloc _ = W0
  have hB0 : Below w.heap.size w W0 := by subst hW; go_grown
  clear hW hk0 hn0
  have HB0 := Lib.hid hB0
  clear hB0
  refine (block_calls ks ns 0 HK.out HN.out BK.out BN.out W0 (rangeAt_below T0.out HB0.out) (rangeAt_below T1.out HB0.out)).mono ?_
  rintro e W1 ⟨rfl, hb1⟩
  obtain ⟨Z, hZ⟩ : ∃ Z, Z = blockI ks 0 ns := ⟨_, rfl⟩
  have hZl : Z.length = 64 := by rw [hZ]; exact blockI_length _ _ _
  have hZm : ∀ b ∈ Z, 0 ≤ b ∧ b ≤ 255 := by rw [hZ]; exact blockI_mem _ _ _
  rw [← hZ]
  have H3 := Lib.hid (show (Tryz.prog.info? 127).map (·.size) = some (rowI .u8 Z).size by rw [rowI_size, hZl]; kernel_rfl)
  have H4 := Lib.hid (show (Tryz.prog.info? 25).map (·.size) = some (rowI .u8 (Z.take 32)).size by rw [rowI_size, List.length_take, hZl]; kernel_rfl)
  have HZL := Lib.hid hZl; have HZ := Lib.hid hZ; have HZM := Lib.hid hZm
  have HB1 := Lib.hid (HB0.out.trans (hb1.mono HB0.out.size))
  clear hZl hZ hZm hb1
  go_wp2_with (refine wpList_store_row rfl 127 (.tmp 9) (.tmp 13) rfl W1.heap.size (rowI .u8 Z) rfl rfl 127 _ (heap_alloc_new _ _) H3.out (by rw [rowI_size, HZL.out]; rfl) (rowI_one _ _) ?_)
  refine name_wp (fun W => Below w.heap.size w W ∧ Whole W W1.heap.size 127 (rowI .u8 Z)) ⟨(HB1.out.alloc HB1.out.size _).grown (only_row _ _ _) (by simp; exact Nat.le_succ_of_le HB1.out.size) (fun k hk => by injection hk with hk; subst hk; exact HB1.out.size), Whole.row (Whole.new (cs' := _) rfl rfl)⟩ ?_
  generalize W1.heap.size = g9
  intro W2 ⟨hB2, hz2⟩
  have HB2 := Lib.hid hB2; have HZ2 := Lib.hid hz2
  clear hB2 hz2 HB1
  obtain ⟨E, hE⟩ : ∃ E, E = strOfNums (fillI (bI extra)) := ⟨_, rfl⟩
  obtain ⟨F, hF⟩ : ∃ F, F = strOfNums (fillI (bI sealed)) := ⟨_, rfl⟩
  obtain ⟨X, hX⟩ : ∃ X, X = strOfNums (bytesN extra.size 8) := ⟨_, rfl⟩
  obtain ⟨V, hV⟩ : ∃ V, V = strOfNums (bytesN sealed.size 8) := ⟨_, rfl⟩
  have hEs : E.size ≤ 1000015 := by rw [hE, str_size, fillI_length, bI_length]; unfold padN; omega
  have hFs : F.size ≤ 1000015 := by rw [hF, str_size, fillI_length, bI_length]; unfold padN; omega
  have hXs : X.size = 8 := by rw [hX, str_size, bytesN_length]
  have hVs : V.size = 8 := by rw [hV, str_size, bytesN_length]
  have hall : bI (E ++ F ++ X ++ V) = allI (bI sealed) (bI extra) := by
    rw [bI_cat, bI_cat, bI_cat, hE, hF, hX, hV, bI_str (fillI_mem _ (mem_of_U8s (U8s_bI extra))), bI_str (fillI_mem _ (mem_of_U8s (U8s_bI sealed))), bI_str (bytesN_mem _ _), bI_str (bytesN_mem _ _)]
    unfold allI
    rw [bI_length, bI_length]
  have HC1 := Lib.hid (show E.size + F.size ≤ 9223372036854775807 by omega)
  have HC2 := Lib.hid (show E.size + F.size + X.size ≤ 9223372036854775807 by omega)
  have HC3 := Lib.hid (show E.size + F.size + X.size + V.size ≤ 9223372036854775807 by omega)
  have HC4 := Lib.hid (show (E ++ F ++ X ++ V).size ≤ 2000046 by rw [ByteArray.size_append, ByteArray.size_append, ByteArray.size_append]; omega)
  have HE := Lib.hid hE; have HF := Lib.hid hF; have HX := Lib.hid hX; have HV := Lib.hid hV; have HALL := Lib.hid hall
  clear hE hF hX hV hEs hFs hXs hVs hall
  refine wp_region_loud 17 (Mk W2 129) none (by kernel_rfl) (by kernel_rfl) (Mk.start _ _) ?_
  refine wpHead_step (fun K hK => ?_)
  refine head_want (by kernel_rfl) ⟨(.slice (some ⟨g9, 0, none⟩) 32 64), fun s W hW => ?_, ?_⟩
  · have hW := Mk.base hW
    refine quietAt_val ?_
    go_simp
  go_simp
  refine hK _ ?_
  clear hK K
  refine wpHead_step (fun K hK => ?_)
  refine head_want (by kernel_rfl) ⟨(.pointer (some ⟨g9, 0, none⟩)), fun s W hW => ?_, ?_⟩
  · have hW := Mk.base hW
    refine quietAt_val ?_
    have hat := run_arrayAt (P := Tryz.prog) W 25 5 32 (some ⟨g9, 0, none⟩) 32 64 Tryz.underlying25 (by decide)
    go_simp
  go_simp
  refine hK _ ?_
  clear hK K
  refine wpHead_step (fun K hK => ?_)
  refine head_load_part (by kernel_rfl) 25 (.tmp 15) rfl g9 rfl 127 (rowI .u8 Z) (rowI .u8 (Z.take 32)) _ HZ2.out (take_part Z 32) Tryz.underlying25 rfl H4.out ?_
  go_simp
  refine hK _ ?_
  clear hK K
  refine wpHead_step (fun K hK => ?_)
  refine head_want (by kernel_rfl) ⟨(.string extra), fun s W hW => ?_, ?_⟩
  · have hW := Mk.base hW
    refine quietAt_val ?_
    go_simp
  go_simp
  refine hK _ ?_
  clear hK K
  refine wpHead_step (fun K hK => ?_)
  refine head_want (by kernel_rfl) ⟨(.string E), fun s W hW => ?_, ?_⟩
  · refine head_call (f := 68) (args := (#[.string extra])) (by go_simp) hW ?_
    have hW := Mk.base hW
    rw [HE.out]; exact pfilled_calls extra (by omega) W
  go_simp
  refine hK _ ?_
  clear hK K
  refine wpHead_step (fun K hK => ?_)
  refine head_want (by kernel_rfl) ⟨(.string sealed), fun s W hW => ?_, ?_⟩
  · have hW := Mk.base hW
    refine quietAt_val ?_
    go_simp
  go_simp
  refine hK _ ?_
  clear hK K
  refine wpHead_step (fun K hK => ?_)
  refine head_want (by kernel_rfl) ⟨(.string F), fun s W hW => ?_, ?_⟩
  · refine head_call (f := 68) (args := (#[.string sealed])) (by go_simp) hW ?_
    have hW := Mk.base hW
    rw [HF.out]; exact pfilled_calls sealed (by omega) W
  go_simp
  refine hK _ ?_
  clear hK K
  refine wpHead_step (fun K hK => ?_)
  refine head_want (by kernel_rfl) ⟨(.string (E ++ F)), fun s W hW => ?_, ?_⟩
  · have hW := Mk.base hW
    refine quietAt_val ?_
    have hc := HC1.out
    go_simp
  go_simp
  refine hK _ ?_
  clear hK K
  refine wpHead_step (fun K hK => ?_)
  refine head_want (by kernel_rfl) ⟨(.string extra), fun s W hW => ?_, ?_⟩
  · have hW := Mk.base hW
    refine quietAt_val ?_
    go_simp
  go_simp
  refine hK _ ?_
  clear hK K
  refine wpHead_step (fun K hK => ?_)
  refine head_want (by kernel_rfl) ⟨(.int .i64 extra.size), fun s W hW => ?_, ?_⟩
  · have hW := Mk.base hW
    refine quietAt_val ?_
    go_simp
  go_simp
  refine hK _ ?_
  clear hK K
  refine wpHead_step (fun K hK => ?_)
  refine head_want (by kernel_rfl) ⟨(.string X), fun s W hW => ?_, ?_⟩
  · refine head_call (f := 69) (args := (#[.int .i64 extra.size])) (by go_simp) hW ?_
    have hW := Mk.base hW
    rw [HX.out]; exact pcount_calls extra.size (by omega) W
  go_simp
  refine hK _ ?_
  clear hK K
  refine wpHead_step (fun K hK => ?_)
  refine head_want (by kernel_rfl) ⟨(.string (E ++ F ++ X)), fun s W hW => ?_, ?_⟩
  · have hW := Mk.base hW
    refine quietAt_val ?_
    have hc := HC2.out
    go_simp
  go_simp
  refine hK _ ?_
  clear hK K
  refine wpHead_step (fun K hK => ?_)
  refine head_want (by kernel_rfl) ⟨(.string sealed), fun s W hW => ?_, ?_⟩
  · have hW := Mk.base hW
    refine quietAt_val ?_
    go_simp
  go_simp
  refine hK _ ?_
  clear hK K
  refine wpHead_step (fun K hK => ?_)
  refine head_want (by kernel_rfl) ⟨(.int .i64 sealed.size), fun s W hW => ?_, ?_⟩
  · have hW := Mk.base hW
    refine quietAt_val ?_
    go_simp
  go_simp
  refine hK _ ?_
  clear hK K
  refine wpHead_step (fun K hK => ?_)
  refine head_want (by kernel_rfl) ⟨(.string V), fun s W hW => ?_, ?_⟩
  · refine head_call (f := 69) (args := (#[.int .i64 sealed.size])) (by go_simp) hW ?_
    have hW := Mk.base hW
    rw [HV.out]; exact pcount_calls sealed.size (by omega) W
  go_simp
  refine hK _ ?_
  clear hK K
  refine wpHead_step (fun K hK => ?_)
  refine head_want (by kernel_rfl) ⟨(.string (E ++ F ++ X ++ V)), fun s W hW => ?_, ?_⟩
  · have hW := Mk.base hW
    refine quietAt_val ?_
    have hc := HC3.out
    go_simp
  go_simp
  refine hK _ ?_
  clear hK K
  refine wpHead_step (fun K hK => ?_)
  refine head_want (by kernel_rfl) ⟨(.agg (rowI .u8 M)), fun s W hW => ?_, ?_⟩
  · refine head_call (f := 67) (args := (#[.agg (rowI .u8 (Z.take 32)), .string (E ++ F ++ X ++ V)])) (by go_simp) hW ?_
    have hW := Mk.base hW
    have h := psum_calls (Z.take 32) (E ++ F ++ X ++ V) (by rw [List.length_take, HZL.out]; rfl) (U8s_take (U8s_of_mem HZM.out) _) (by have := HC4.out; omega) W
    rw [HALL.out, HZ.out, show polyI ((blockI ks 0 ns).take 32) (allI (bI sealed) (bI extra)) = markI ks ns (bI sealed) (bI extra) from rfl, ← HM.out, ← HZ.out] at h
    exact h
  go_simp
  refine hK _ ?_
  clear hK K
  refine wpHead_nil ?_
  refine loud_row (.tmp 30) 10 (rowI .u8 (List.replicate 16 0)) (rowI .u8 M) (by kernel_rfl) rfl (fun W => by go_simp; rfl) (fun p => by kernel_rfl) rfl rfl (fun p => by rfl) (fun p => by rfl) H5.out (by rw [rowI_size, rowI_size, HML.out]; rfl) (rowI_one _ _) (fun p10 => ?_)
  intro W3 ⟨hB3, hp3, hw3⟩
  have hcl : ∀ q, q < 16 → W3.cell? ⟨p10, 0 + q, none⟩ = some (.int .u8 (M.getD q 0)) := fun q hq => by
    rw [Nat.zero_add, hw3.at_, rowI_get .u8 _ q (by rw [HML.out]; exact hq)]; rfl
  have hrun := run_convert_bytes_arg (P := Tryz.prog) W3 33 5 Tryz.underlying33 Tryz.underlying5 p10 0 16 16 M HML.out hcl 9 Tryz.underlying9
  have HB3 := Lib.hid (HB2.out.trans (hB3.mono HB2.out.size))
  clear hcl hB3 hp3 hw3
  go_wp2_with fail
  go_ret
  exact ⟨rfl, HB3.out⟩
end Go.Proofs.YtfoljmpphbhobaaGreatDoor
namespace Go.Proofs.YtfoljmpphbhobaaGreatDoor
open Go.RowKit Go.Spk
set_option linter.unusedVariables false
set_option maxRecDepth 100000 in
set_option maxHeartbeats 2000000 in
theorem pseal_calls (ks ns : List Int) (text extra : ByteArray) (hk : ks.length = 32) (hn : ns.length = 12) (bk : U8s ks) (bn : U8s ns) (hs : text.size ≤ 1000000) (he : extra.size ≤ 1000000) (w : World)
   (t0 : w.rangeAt 21 0 (beginI.map (Value.int .u32))) (t1 : w.rangeAt 22 0 orderC) :
    Calls Tryz.prog 27 #[.agg (rowI .u8 ks), .agg (rowI .u8 ns), .string text, .string extra] w
      fun e w' => e = .returned (.string (strOfNums (sealI ks ns (bI text) (bI extra)))) ∧ Below w.heap.size w w' := by
  have T0 := Lib.hid t0; have T1 := Lib.hid t1; clear t0 t1
  have H1 := Lib.hid (show (Tryz.prog.info? 25).map (·.size) = some (rowI .u8 ks).size by rw [rowI_size, hk]; kernel_rfl)
  have H2 := Lib.hid (show (Tryz.prog.info? 70).map (·.size) = some (rowI .u8 ns).size by rw [rowI_size, hn]; kernel_rfl)
  have HK := Lib.hid hk; have HN := Lib.hid hn; have BK := Lib.hid bk; have BN := Lib.hid bn
  obtain ⟨X, hX⟩ : ∃ X, X = strOfNums (xorI ks 1 ns (bI text)) := ⟨_, rfl⟩
  have hXb : bI X = xorI ks 1 ns (bI text) := by rw [hX, bI_str (xorI_mem _ _ _ _)]
  have hXs : X.size = text.size := by rw [← bI_length, hXb, xorI_length, bI_length]
  obtain ⟨M, hM⟩ : ∃ M, M = strOfNums (markI ks ns (bI X) (bI extra)) := ⟨_, rfl⟩
  have hMs : M.size = 16 := by rw [hM, str_size, markI_length]
  have hall : X ++ M = strOfNums (sealI ks ns (bI text) (bI extra)) := by
    unfold sealI
    rw [str_cat, ← hX, ← hXb, ← hM]
  rw [← hall]
  have hc : X.size + M.size ≤ 9223372036854775807 := by omega
  have HX := Lib.hid hX; have HXS := Lib.hid hXs; have HM := Lib.hid hM; have HC := Lib.hid hc
  clear hk hn bk bn hX hXb hXs hM hMs hall hc
  have hk0 : Whole ((w.alloc (.cells (rowI .u8 ks) 25)).alloc (.cells (rowI .u8 ns) 70)) w.heap.size 25 (rowI .u8 ks) := (Whole.new rfl rfl).alloc _
  have hn0 : Whole ((w.alloc (.cells (rowI .u8 ks) 25)).alloc (.cells (rowI .u8 ns) 70)) (w.heap.size + 1) 70 (rowI .u8 ns) := Whole.new (by simp) rfl
  go_enter Tryz.func27, Tryz.ntmps27
  go_wp2_with (first
    | (refine wpList_load_row rfl 25 (.tmp 4) rfl _ rfl 25 (rowI .u8 ks) (0, 0) _ hk0 Tryz.underlying25 rfl H1.out ?_)
    | (refine wpList_load_row rfl 70 (.tmp 5) rfl _ rfl 70 (rowI .u8 ns) (0, 0) _ hn0 Tryz.underlying70 rfl H2.out ?_)
    | fail)
  have hB0 : Below w.heap.size w ((w.alloc (.cells (rowI .u8 ks) 25)).alloc (.cells (rowI .u8 ns) 70)) := by go_grown
  generalize hW : (w.alloc _).alloc _ = W0 at *
  have HB0 := Lib.hid hB0; have HK0 := Lib.hid hk0; have HN0 := Lib.hid hn0
  clear hW hk0 hn0 hB0
  refine (xor_calls ks ns 1 text HK.out HN.out BK.out BN.out (by decide) (by decide) (by omega) W0 (rangeAt_below T0.out HB0.out) (rangeAt_below T1.out HB0.out)).mono ?_
  rw [← HX.out]
  rintro e W1 ⟨rfl, hb1⟩
  have HB1 := Lib.hid (HB0.out.trans (hb1.mono HB0.out.size))
  have hk1 := HK0.out.below hb1 HK0.out.inside
  have hn1 := HN0.out.below hb1 HN0.out.inside
  clear hb1
  go_wp2_with (first
    | (refine wpList_load_row rfl 25 (.tmp 4) rfl _ rfl 25 (rowI .u8 ks) (0, 0) _ hk1 Tryz.underlying25 rfl H1.out ?_)
    | (refine wpList_load_row rfl 70 (.tmp 5) rfl _ rfl 70 (rowI .u8 ns) (0, 0) _ hn1 Tryz.underlying70 rfl H2.out ?_)
    | fail)
  clear hk1 hn1
  refine (pmark_calls ks ns X extra HK.out HN.out BK.out BN.out (by rw [HXS.out]; exact hs) he W1 (rangeAt_below T0.out HB1.out) (rangeAt_below T1.out HB1.out)).mono ?_
  rw [← HM.out]
  rintro e W2 ⟨rfl, hb2⟩
  have HB2 := Lib.hid (HB1.out.trans (hb2.mono HB1.out.size))
  have hc := HC.out
  clear hb2
  go_wp2_with fail
  go_ret
  exact ⟨rfl, HB2.out⟩
/-- The bits in which two strings part, put together. -/
def diffT (ps qs : List Int) : Nat → Nat
  | 0 => 0
  | k + 1 => diffT ps qs k ||| ((ix ps k).toNat ^^^ (ix qs k).toNat)
theorem diffT_lt (ps qs : List Int) (ha : U8s ps) (hb : U8s qs) (k : Nat) : diffT ps qs k < 256 := by
  induction k with
  | zero => simp [diffT]
  | succ k ih =>
    have h1 := ha k; have h2 := hb k
    have h3 : (ix ps k).toNat ^^^ (ix qs k).toNat < 2 ^ 8 := Nat.xor_lt_two_pow (by omega) (by omega)
    exact Nat.or_lt_two_pow (n := 8) ih h3
theorem diffT_zero (ps qs : List Int) (ha : U8s ps) (hb : U8s qs) (k : Nat) : diffT ps qs k = 0 ↔ ∀ i, i < k → ix ps i = ix qs i := by
  induction k with
  | zero => simp [diffT]
  | succ k ih =>
    rw [diffT, Nat.or_eq_zero_iff, ih]
    have h1 := ha k; have h2 := hb k
    constructor
    · rintro ⟨h, hx⟩ i hi
      by_cases e : i = k
      · subst e
        have h3 : ((ix ps i).toNat ^^^ (ix qs i).toNat) ^^^ (ix qs i).toNat = (ix ps i).toNat := by rw [Nat.xor_assoc, Nat.xor_self, Nat.xor_zero]
        rw [hx, Nat.zero_xor] at h3
        omega
      · exact h i (by omega)
    · intro h
      refine ⟨fun i hi => h i (by omega), ?_⟩
      rw [h k (by omega)]
      exact Nat.xor_self _
theorem same_iff (a b : ByteArray) (h : a.size = b.size) : (diffT (bI a) (bI b) a.size = 0) ↔ a = b := by
  rw [diffT_zero _ _ (U8s_bI a) (U8s_bI b)]
  constructor
  · intro hh
    exact bI_ext (ix_ext (by rw [bI_length, bI_length, h]) fun i hi => hh i (by rwa [bI_length] at hi))
  · intro e i hi
    rw [e]
set_option maxRecDepth 100000 in
set_option maxHeartbeats 2000000 in
theorem same_calls (a b : ByteArray) (ha : a.size ≤ 1000000000) (w : World) :
    Calls Tryz.prog 76 #[.string a, .string b] w fun e w' => e = .returned (.bool (decide (a = b))) ∧ ∃ m, w' = w.drewN m := by
  have gsa : ∀ (n : Nat) (h : n < a.size), ((a[n]'h).toNat : Int) = ix (bI a) n := fun n h => (ix_bI a n h).symm
  have gsb : ∀ (n : Nat) (h : n < b.size), ((b[n]'h).toNat : Int) = ix (bI b) n := fun n h => (ix_bI b n h).symm
  by_cases hl : a.size = b.size
  · obtain ⟨n, hn⟩ : ∃ n, n = a.size := ⟨_, rfl⟩
    have e : decide (a = b) = decide (diffT (bI a) (bI b) n = 0) := by
      rw [Bool.eq_iff_iff]; simp only [decide_eq_true_eq]; rw [hn]; exact (same_iff a b hl).symm
    rw [e]
    obtain ⟨R, hR⟩ : ∃ R, R = diffT (bI a) (bI b) n := ⟨_, rfl⟩
    rw [← hR]
    have HR := Lib.hid hR
    clear hR
    have hnb : n ≤ 1000000000 := by omega
    have za : a.size = n := hn.symm
    clear ha
    have zb : b.size = n := by omega
    clear e hn hl
    go_enter Tryz.func76, Tryz.ntmps76
    go_wp2_with fail
    go_loopw [5, 14] (fun x i wr => ∃ k m : Nat, k ≤ n ∧ i = .int .i64 k ∧ x = .int .u8 (diffT (bI a) (bI b) k : Nat) ∧ wr = w.drewN m) (fun _ i _ => n - (intOf i).toNat)
    case atStart => exact ⟨0, 0, by omega, rfl, rfl, rfl⟩
    case round =>
      obtain ⟨k, m, hk, rfl, rfl, rfl⟩ := hrel
      by_cases h1 : k < n
      · have i1 : (k : Int) < n := by omega
        have hua := U8s_bI a k; have hub := U8s_bI b k
        have hd := diffT_lt (bI a) (bI b) (U8s_bI a) (U8s_bI b) k
        have h3 : (ix (bI a) k).toNat ^^^ (ix (bI b) k).toNat < 256 := Nat.xor_lt_two_pow (n := 8) (by omega) (by omega)
        have hx := u8_xor (ix (bI a) k) (ix (bI b) k) (by omega) (by omega) (by omega) (by omega)
        have ho := u8_or_nat (diffT (bI a) (bI b) k) ((ix (bI a) k).toNat ^^^ (ix (bI b) k).toNat) hd h3
        change _ = ((diffT (bI a) (bI b) (k + 1) : Nat) : Int) at ho
        generalize (ix (bI a) k).toNat ^^^ (ix (bI b) k).toNat = x at hx ho
        clear h3 hua hub
        obtain ⟨d, hd1⟩ : ∃ d, d = diffT (bI a) (bI b) k := ⟨_, rfl⟩
        obtain ⟨d', hd2⟩ : ∃ d, d = diffT (bI a) (bI b) (k + 1) := ⟨_, rfl⟩
        rw [← hd1] at ho ⊢
        rw [← hd2] at ho
        have HD := Lib.hid hd2
        clear hd hd1 hd2
        go_wp2_with fail
        go_quiet (fail)
        go_wp2_with fail
        go_roundw
        case rel => exact ⟨k + 1, m + nq, by omega, by go_num, by rw [HD.out], rfl⟩
        case measure => simp [intOf]; omega
      · obtain rfl : k = n := by omega
        rw [← HR.out]
        by_cases h0 : R = 0
        · have HR0 := Lib.hid h0
          clear HR
          subst h0
          rw [show ((0 : Nat) : Int) = 0 from rfl]
          go_wp2_with fail
          go_ret
          exact ⟨by simp, m, rfl⟩
        · have hne : ((R : Int) == 0) = false := by
            have : ¬ (R : Int) = 0 := by omega
            simpa using this
          have hdd : decide (R = 0) = false := by simpa using h0
          have HDD := Lib.hid hdd
          clear hdd
          go_wp2_with fail
          go_ret
          exact ⟨by rw [HDD.out]; rfl, m, rfl⟩
  · have hne : decide (a = b) = false := by
      simp only [decide_eq_false_iff_not]
      intro e; exact hl (by rw [e])
    rw [hne]
    have i1 : ¬ (a.size : Int) = b.size := by omega
    clear ha hne hl gsa gsb
    go_enter Tryz.func76, Tryz.ntmps76
    go_wp2_with fail
    go_ret
    exact ⟨rfl, 0, rfl⟩
end Go.Proofs.YtfoljmpphbhobaaGreatDoor
namespace Go.Proofs.YtfoljmpphbhobaaGreatDoor
open Go.RowKit Go.Spk
set_option linter.unusedVariables false
/-- The error of a number: 2, 5, or none. -/
def errV (c : Int) (vE vM : Value) : Value := if c = 2 then vE else if c = 5 then vM else .nilIface
theorem open_cases (ks ns : List Int) (s extra : ByteArray) (n : Nat) (hn : s.size = n + 16) (A T : ByteArray) (hA : A = s.extract 0 n) (hT : T = s.extract n s.size) :
    openS ks ns (bI s) (bI extra) = (if strOfNums (markI ks ns (bI A) (bI extra)) = T then xorI ks 1 ns (bI A) else []) ∧
    openC ks ns (bI s) (bI extra) = (if strOfNums (markI ks ns (bI A) (bI extra)) = T then 0 else 5) := by
  have bA : bI A = (bI s).take n := by rw [hA]; simp [bI]
  have bT : bI T = (bI s).drop n := by rw [hT, bI_cut]
  have hl : ¬ s.size < 16 := by omega
  have hfit : fitsI ks ns (bI s) (bI extra) = decide (strOfNums (markI ks ns (bI A) (bI extra)) = T) := by
    unfold fitsI
    rw [bI_length, show s.size - 16 = n by omega, ← bA, ← bT]
    rw [Bool.eq_iff_iff]
    simp only [beq_iff_eq, decide_eq_true_eq]
    constructor
    · intro h; rw [h, str_bI]
    · intro h; rw [← h, bI_str (markI_mem _ _ _ _)]
  constructor
  · unfold openS; rw [bI_length, if_neg hl, hfit, show s.size - 16 = n by omega, ← bA]; simp only [decide_eq_true_eq]
  · unfold openC; rw [bI_length, if_neg hl, hfit]; simp only [decide_eq_true_eq]
set_option maxRecDepth 100000 in
set_option maxHeartbeats 2000000 in
theorem popen_calls (ks ns : List Int) (s extra : ByteArray) (hk : ks.length = 32) (hn : ns.length = 12) (bk : U8s ks) (bn : U8s ns) (hs : s.size ≤ 1000000) (he : extra.size ≤ 1000000) (vE vM : Value) (w : World)
   (t0 : w.rangeAt 21 0 (beginI.map (Value.int .u32))) (t1 : w.rangeAt 22 0 orderC)
   (cE : w.cell? ⟨0, 0, none⟩ = some vE) (cM : w.cell? ⟨4, 0, none⟩ = some vM) :
    Calls Tryz.prog 56 #[.agg (rowI .u8 ks), .agg (rowI .u8 ns), .string s, .string extra] w
      fun e w' => e = .returned (.tuple #[.string (strOfNums (openS ks ns (bI s) (bI extra))), errV (openC ks ns (bI s) (bI extra)) vE vM]) ∧ Below w.heap.size w w' := by
  have T0 := Lib.hid t0; have T1 := Lib.hid t1; clear t0 t1
  have gE := block_lt_of_cell cE; have gM := block_lt_of_cell cM
  have H1 := Lib.hid (show (Tryz.prog.info? 25).map (·.size) = some (rowI .u8 ks).size by rw [rowI_size, hk]; kernel_rfl)
  have H2 := Lib.hid (show (Tryz.prog.info? 70).map (·.size) = some (rowI .u8 ns).size by rw [rowI_size, hn]; kernel_rfl)
  have HK := Lib.hid hk; have HN := Lib.hid hn; have BK := Lib.hid bk; have BN := Lib.hid bn
  clear hk hn bk bn
  have HGE := Lib.hid gE; have HGM := Lib.hid gM; have HCE := Lib.hid cE; have HCM := Lib.hid cM
  clear gE gM cE cM
  by_cases hl : s.size < 16
  · have i1 : (s.size : Int) - 16 < 0 := by omega
    have e1 : openS ks ns (bI s) (bI extra) = [] := by unfold openS; rw [bI_length, if_pos hl]
    have e2 : openC ks ns (bI s) (bI extra) = 2 := by unfold openC; rw [bI_length, if_pos hl]
    rw [e1, e2, nil_str, show errV 2 vE vM = vE from rfl]
    clear e1 e2
    have cE : ((w.alloc (.cells (rowI .u8 ks) 25)).alloc (.cells (rowI .u8 ns) 70)).cell? ⟨0, 0, none⟩ = some vE :=
      ((((Below.refl _ w).alloc (Nat.le_refl _) _).alloc (by simp) _).cell (p := ⟨0, 0, none⟩) HGE.out).trans HCE.out
    go_enter Tryz.func56, Tryz.ntmps56
    go_wp2_with fail
    generalize hW : (w.alloc _).alloc _ = W0 at *
    have hB0 : Below w.heap.size w W0 := by subst hW; go_grown
    have HB0 := Lib.hid hB0
    clear hW hB0
    go_quiet (fail)
    go_wp2_with fail
    go_ret2
    exact ⟨rfl, below_drawnN HB0.out _⟩
  · have i1 : ¬ (s.size : Int) - 16 < 0 := by omega
    obtain ⟨n, hnn⟩ : ∃ n, s.size = n + 16 := ⟨s.size - 16, by omega⟩
    have i2 : (s.size : Int) - 16 = n := by omega
    have i3 : (n : Int) ≤ s.size := by omega
    obtain ⟨A, hA⟩ : ∃ A, A = s.extract 0 n := ⟨_, rfl⟩
    obtain ⟨T, hT⟩ : ∃ T, T = s.extract n s.size := ⟨_, rfl⟩
    have sA : A.size ≤ 1000000 := by rw [hA]; simp; omega
    have sT : T.size ≤ 1000000000 := by rw [hT]; simp; omega
    obtain ⟨e1, e2⟩ := open_cases ks ns s extra n hnn A T hA hT
    rw [e1, e2]
    obtain ⟨M, hM⟩ : ∃ M, M = strOfNums (markI ks ns (bI A) (bI extra)) := ⟨_, rfl⟩
    rw [← hM]
    obtain ⟨X, hX⟩ : ∃ X, X = strOfNums (xorI ks 1 ns (bI A)) := ⟨_, rfl⟩
    have HA := Lib.hid hA.symm; have HT := Lib.hid hT.symm; have HM := Lib.hid hM; have HX := Lib.hid hX; have SA := Lib.hid sA; have ST := Lib.hid sT
    clear hA hT sA sT hM hX e1 e2 hnn hl
    have ha := HA.out; have ht := HT.out
    by_cases hq : M = T
    · have HEQ := Lib.hid (show decide (T = M) = true by simp [hq])
      rw [if_pos hq, if_pos hq, ← HX.out, show errV 0 vE vM = .nilIface from rfl]
      clear hq
      go_enter Tryz.func56, Tryz.ntmps56
      go_wp2_with fail
      refine name_wp (fun W => Below w.heap.size w W ∧ Whole W w.heap.size 25 (rowI .u8 ks) ∧ Whole W (w.heap.size + 1) 70 (rowI .u8 ns)) ⟨by go_grown, (Whole.new rfl rfl).alloc _, Whole.new (by simp) rfl⟩ ?_
      intro W0 hF0
      refine wp_region_class (fun W => Below w.heap.size w W ∧ Whole W w.heap.size 25 (rowI .u8 ks) ∧ Whole W (w.heap.size + 1) 70 (rowI .u8 ns)) (by kernel_rfl) (by kernel_rfl) ⟨(hF0.1.trans (below_drawnN (Below.refl _ _) 1)), hF0.2.1.drew, hF0.2.2.drew⟩ ?_
      clear hF0 W0
      refine wpQuiet_step (fun K hK => ?_)
      refine quiet_want (by kernel_rfl) ⟨(.string s), fun W hW => ?_, ?_⟩
      · refine quietAt_val ?_
        go_simp
      go_simp
      refine hK _ ?_
      clear hK K
      refine wpQuiet_step (fun K hK => ?_)
      refine quiet_want (by kernel_rfl) ⟨(.int .i64 (n : Int)), fun W hW => ?_, ?_⟩
      · refine quietAt_val ?_
        go_simp
      go_simp
      refine hK _ ?_
      clear hK K
      refine wpQuiet_step (fun K hK => ?_)
      refine quiet_want (by kernel_rfl) ⟨(.string T), fun W hW => ?_, ?_⟩
      · refine quietAt_val ?_
        go_simp
      go_simp
      refine hK _ ?_
      clear hK K
      refine wpQuiet_step (fun K hK => ?_)
      refine quiet_load (by kernel_rfl) 25 (.tmp 4) rfl _ rfl 25 (rowI .u8 ks) _ (fun W hW => hW.2.1) Tryz.underlying25 rfl H1.out ?_
      go_simp
      refine hK _ ?_
      clear hK K
      refine wpQuiet_step (fun K hK => ?_)
      refine quiet_load (by kernel_rfl) 70 (.tmp 5) rfl _ rfl 70 (rowI .u8 ns) _ (fun W hW => hW.2.2) Tryz.underlying70 rfl H2.out ?_
      go_simp
      refine hK _ ?_
      clear hK K
      refine wpQuiet_step (fun K hK => ?_)
      refine quiet_want (by kernel_rfl) ⟨(.string s), fun W hW => ?_, ?_⟩
      · refine quietAt_val ?_
        go_simp
      go_simp
      refine hK _ ?_
      clear hK K
      refine wpQuiet_step (fun K hK => ?_)
      refine quiet_want (by kernel_rfl) ⟨(.int .i64 (n : Int)), fun W hW => ?_, ?_⟩
      · refine quietAt_val ?_
        go_simp
      go_simp
      refine hK _ ?_
      clear hK K
      refine wpQuiet_step (fun K hK => ?_)
      refine quiet_want (by kernel_rfl) ⟨(.string A), fun W hW => ?_, ?_⟩
      · refine quietAt_val ?_
        go_simp
      go_simp
      refine hK _ ?_
      clear hK K
      refine wpQuiet_step (fun K hK => ?_)
      refine quiet_want (by kernel_rfl) ⟨(.string extra), fun W hW => ?_, ?_⟩
      · refine quietAt_val ?_
        go_simp
      go_simp
      refine hK _ ?_
      clear hK K
      refine wpQuiet_step (fun K hK => ?_)
      refine quiet_want (by kernel_rfl) ⟨(.string M), fun W hW => ?_, ?_⟩
      · refine quietAt_call (f := 48) (args := (#[.agg (rowI .u8 ks), .agg (rowI .u8 ns), .string A, .string extra])) (by go_simp) ?_
        refine (pmark_calls ks ns A extra HK.out HN.out BK.out BN.out SA.out he W (rangeAt_below T0.out hW.1) (rangeAt_below T1.out hW.1)).mono ?_
        rw [← HM.out]
        rintro e W' ⟨rfl, hb⟩
        exact ⟨rfl, hW.1.trans (hb.mono hW.1.size), hW.2.1.below hb hW.2.1.inside, hW.2.2.below hb hW.2.2.inside⟩
      go_simp
      refine hK _ ?_
      clear hK K
      refine wpQuiet_step (fun K hK => ?_)
      refine quiet_want (by kernel_rfl) ⟨(.bool true), fun W hW => ?_, ?_⟩
      · refine quietAt_call (f := 76) (args := (#[.string T, .string M])) (by go_simp) ?_
        refine (same_calls T M ST.out W).mono ?_
        rw [HEQ.out]
        rintro e W' ⟨rfl, m, rfl⟩
        have hb := below_drawnN (Below.refl W.heap.size W) m
        exact ⟨rfl, hW.1.trans (hb.mono hW.1.size), hW.2.1.below hb hW.2.1.inside, hW.2.2.below hb hW.2.2.inside⟩
      go_simp
      refine hK _ ?_
      clear hK K
      refine wpQuiet_step (fun K hK => ?_)
      refine quiet_want (by kernel_rfl) ⟨(.bool false), fun W hW => ?_, ?_⟩
      · refine quietAt_val ?_
        go_simp
      go_simp
      refine hK _ ?_
      clear hK K
      refine wpQuiet_nil ?_
      intro W1 hF1
      have HF1 := Lib.hid hF1
      clear hF1
      go_wp2_with fail
      refine wp_region_class (fun W => Below w.heap.size w W ∧ Whole W w.heap.size 25 (rowI .u8 ks) ∧ Whole W (w.heap.size + 1) 70 (rowI .u8 ns)) (by kernel_rfl) (by kernel_rfl) ⟨(HF1.out.1.trans (below_drawnN (Below.refl _ _) 1)), HF1.out.2.1.drew, HF1.out.2.2.drew⟩ ?_
      refine wpQuiet_step (fun K hK => ?_)
      refine quiet_load (by kernel_rfl) 25 (.tmp 4) rfl _ rfl 25 (rowI .u8 ks) _ (fun W hW => hW.2.1) Tryz.underlying25 rfl H1.out ?_
      go_simp
      refine hK _ ?_
      clear hK K
      refine wpQuiet_step (fun K hK => ?_)
      refine quiet_load (by kernel_rfl) 70 (.tmp 5) rfl _ rfl 70 (rowI .u8 ns) _ (fun W hW => hW.2.2) Tryz.underlying70 rfl H2.out ?_
      go_simp
      refine hK _ ?_
      clear hK K
      refine wpQuiet_step (fun K hK => ?_)
      refine quiet_want (by kernel_rfl) ⟨(.string s), fun W hW => ?_, ?_⟩
      · refine quietAt_val ?_
        go_simp
      go_simp
      refine hK _ ?_
      clear hK K
      refine wpQuiet_step (fun K hK => ?_)
      refine quiet_want (by kernel_rfl) ⟨(.int .i64 (n : Int)), fun W hW => ?_, ?_⟩
      · refine quietAt_val ?_
        go_simp
      go_simp
      refine hK _ ?_
      clear hK K
      refine wpQuiet_step (fun K hK => ?_)
      refine quiet_want (by kernel_rfl) ⟨(.string A), fun W hW => ?_, ?_⟩
      · refine quietAt_val ?_
        go_simp
      go_simp
      refine hK _ ?_
      clear hK K
      refine wpQuiet_step (fun K hK => ?_)
      refine quiet_want (by kernel_rfl) ⟨(.string X), fun W hW => ?_, ?_⟩
      · refine quietAt_call (f := 47) (args := (#[.agg (rowI .u8 ks), .int .u32 1, .agg (rowI .u8 ns), .string A])) (by go_simp) ?_
        refine (xor_calls ks ns 1 A HK.out HN.out BK.out BN.out (by decide) (by decide) (by have := SA.out; omega) W (rangeAt_below T0.out hW.1) (rangeAt_below T1.out hW.1)).mono ?_
        rw [← HX.out]
        rintro e W' ⟨rfl, hb⟩
        exact ⟨rfl, hW.1.trans (hb.mono hW.1.size), hW.2.1.below hb hW.2.1.inside, hW.2.2.below hb hW.2.2.inside⟩
      go_simp
      refine hK _ ?_
      clear hK K
      refine wpQuiet_step (fun K hK => ?_)
      refine quiet_want (by kernel_rfl) ⟨(.string X), fun W hW => ?_, ?_⟩
      · refine quietAt_val ?_
        go_simp
      go_simp
      refine hK _ ?_
      clear hK K
      refine wpQuiet_step (fun K hK => ?_)
      refine quiet_want (by kernel_rfl) ⟨(.nilIface), fun W hW => ?_, ?_⟩
      · refine quietAt_val ?_
        go_simp
      go_simp
      refine hK _ ?_
      clear hK K
      refine wpQuiet_nil ?_
      intro W2 hF2
      have HF2 := Lib.hid hF2.1
      clear hF2
      go_wp2_with fail
      go_ret2
      exact ⟨rfl, HF2.out⟩
    · have HEQ := Lib.hid (show decide (T = M) = false by simp only [decide_eq_false_iff_not]; exact fun e => hq e.symm)
      rw [if_neg hq, if_neg hq, nil_str, show errV 5 vE vM = vM from rfl]
      clear hq
      go_enter Tryz.func56, Tryz.ntmps56
      go_wp2_with fail
      refine name_wp (fun W => Below w.heap.size w W ∧ Whole W w.heap.size 25 (rowI .u8 ks) ∧ Whole W (w.heap.size + 1) 70 (rowI .u8 ns)) ⟨by go_grown, (Whole.new rfl rfl).alloc _, Whole.new (by simp) rfl⟩ ?_
      intro W0 hF0
      refine wp_region_class (fun W => Below w.heap.size w W ∧ Whole W w.heap.size 25 (rowI .u8 ks) ∧ Whole W (w.heap.size + 1) 70 (rowI .u8 ns)) (by kernel_rfl) (by kernel_rfl) ⟨(hF0.1.trans (below_drawnN (Below.refl _ _) 1)), hF0.2.1.drew, hF0.2.2.drew⟩ ?_
      clear hF0 W0
      refine wpQuiet_step (fun K hK => ?_)
      refine quiet_want (by kernel_rfl) ⟨(.string s), fun W hW => ?_, ?_⟩
      · refine quietAt_val ?_
        go_simp
      go_simp
      refine hK _ ?_
      clear hK K
      refine wpQuiet_step (fun K hK => ?_)
      refine quiet_want (by kernel_rfl) ⟨(.int .i64 (n : Int)), fun W hW => ?_, ?_⟩
      · refine quietAt_val ?_
        go_simp
      go_simp
      refine hK _ ?_
      clear hK K
      refine wpQuiet_step (fun K hK => ?_)
      refine quiet_want (by kernel_rfl) ⟨(.string T), fun W hW => ?_, ?_⟩
      · refine quietAt_val ?_
        go_simp
      go_simp
      refine hK _ ?_
      clear hK K
      refine wpQuiet_step (fun K hK => ?_)
      refine quiet_load (by kernel_rfl) 25 (.tmp 4) rfl _ rfl 25 (rowI .u8 ks) _ (fun W hW => hW.2.1) Tryz.underlying25 rfl H1.out ?_
      go_simp
      refine hK _ ?_
      clear hK K
      refine wpQuiet_step (fun K hK => ?_)
      refine quiet_load (by kernel_rfl) 70 (.tmp 5) rfl _ rfl 70 (rowI .u8 ns) _ (fun W hW => hW.2.2) Tryz.underlying70 rfl H2.out ?_
      go_simp
      refine hK _ ?_
      clear hK K
      refine wpQuiet_step (fun K hK => ?_)
      refine quiet_want (by kernel_rfl) ⟨(.string s), fun W hW => ?_, ?_⟩
      · refine quietAt_val ?_
        go_simp
      go_simp
      refine hK _ ?_
      clear hK K
      refine wpQuiet_step (fun K hK => ?_)
      refine quiet_want (by kernel_rfl) ⟨(.int .i64 (n : Int)), fun W hW => ?_, ?_⟩
      · refine quietAt_val ?_
        go_simp
      go_simp
      refine hK _ ?_
      clear hK K
      refine wpQuiet_step (fun K hK => ?_)
      refine quiet_want (by kernel_rfl) ⟨(.string A), fun W hW => ?_, ?_⟩
      · refine quietAt_val ?_
        go_simp
      go_simp
      refine hK _ ?_
      clear hK K
      refine wpQuiet_step (fun K hK => ?_)
      refine quiet_want (by kernel_rfl) ⟨(.string extra), fun W hW => ?_, ?_⟩
      · refine quietAt_val ?_
        go_simp
      go_simp
      refine hK _ ?_
      clear hK K
      refine wpQuiet_step (fun K hK => ?_)
      refine quiet_want (by kernel_rfl) ⟨(.string M), fun W hW => ?_, ?_⟩
      · refine quietAt_call (f := 48) (args := (#[.agg (rowI .u8 ks), .agg (rowI .u8 ns), .string A, .string extra])) (by go_simp) ?_
        refine (pmark_calls ks ns A extra HK.out HN.out BK.out BN.out SA.out he W (rangeAt_below T0.out hW.1) (rangeAt_below T1.out hW.1)).mono ?_
        rw [← HM.out]
        rintro e W' ⟨rfl, hb⟩
        exact ⟨rfl, hW.1.trans (hb.mono hW.1.size), hW.2.1.below hb hW.2.1.inside, hW.2.2.below hb hW.2.2.inside⟩
      go_simp
      refine hK _ ?_
      clear hK K
      refine wpQuiet_step (fun K hK => ?_)
      refine quiet_want (by kernel_rfl) ⟨(.bool false), fun W hW => ?_, ?_⟩
      · refine quietAt_call (f := 76) (args := (#[.string T, .string M])) (by go_simp) ?_
        refine (same_calls T M ST.out W).mono ?_
        rw [HEQ.out]
        rintro e W' ⟨rfl, m, rfl⟩
        have hb := below_drawnN (Below.refl W.heap.size W) m
        exact ⟨rfl, hW.1.trans (hb.mono hW.1.size), hW.2.1.below hb hW.2.1.inside, hW.2.2.below hb hW.2.2.inside⟩
      go_simp
      refine hK _ ?_
      clear hK K
      refine wpQuiet_step (fun K hK => ?_)
      refine quiet_want (by kernel_rfl) ⟨(.bool true), fun W hW => ?_, ?_⟩
      · refine quietAt_val ?_
        go_simp
      go_simp
      refine hK _ ?_
      clear hK K
      refine wpQuiet_nil ?_
      intro W1 hF1
      have cM : W1.cell? ⟨4, 0, none⟩ = some vM := (hF1.1.cell (p := ⟨4, 0, none⟩) HGM.out).trans HCM.out
      have HF1 := Lib.hid hF1.1
      clear hF1
      go_wp2_with fail
      go_quiet (fail)
      go_wp2_with fail
      go_ret2
      exact ⟨rfl, below_drawnN HF1.out _⟩
end Go.Proofs.YtfoljmpphbhobaaGreatDoor
