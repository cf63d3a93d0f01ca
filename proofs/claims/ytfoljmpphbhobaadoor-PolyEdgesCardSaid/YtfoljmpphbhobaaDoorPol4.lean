/- The walk of poly's Sum. -/
import Derived.Test.YtfoljmpphbhobaaDoorPol4a
import Derived.Test.YtfoljmpphbhobaaDoorPol3
import Derived.StillTailTactics
import Derived.Test.YtfoljmpphbhobaaDoorCha3
import Derived.Test.YtfoljmpphbhobaaDoorNum13
namespace Go.Proofs.YtfoljmpphbhobaaDoor
open Go.RowKit Go.Spk
set_option linter.unusedVariables false
theorem num_calls' (s : ByteArray) (hs : s.size ≤ 8) (w : World) :
    Calls Tryd.prog 40 #[.string s] w fun e w' => e = .returned (.int .u64 (nW (bI s) : Nat)) ∧ w = w' := by
  rw [nW_int _ (U8s_bI s)]; exact num_calls s hs w
theorem num_still (s : ByteArray) (hs : s.size ≤ 8) (w : World) :
    Calls Tryd.prog 40 #[.string s] w fun e w' => e = .returned (.int .u64 (nW (bI s) : Nat)) ∧ w' = w :=
  (num_calls' s hs w).mono fun _ _ ⟨h1, h2⟩ => ⟨h1, h2.symm⟩
theorem repeat_zeros (n : Nat) : bI ⟨(Lib.repeatL (ByteArray.mk #[0]).data.toList n).toArray⟩ = List.replicate n 0 := by
  induction n with
  | zero => rfl
  | succ n ih =>
    rw [List.replicate_succ, ← ih]
    rfl
/-- The sum laid byte by byte. -/
def layN (n i : Nat) : List Int := bytesN n i ++ List.replicate (16 - i) 0
theorem layN_length (n i : Nat) (h : i ≤ 16) : (layN n i).length = 16 := by unfold layN; rw [List.length_append, bytesN_length, List.length_replicate]; omega
theorem layN_zero (n : Nat) : layN n 0 = List.replicate 16 0 := rfl
theorem layN_end (n : Nat) : layN n 16 = bytesN n 16 := by unfold layN; simp
theorem layN_set (n i : Nat) (h : i < 16) : (layN n i).set i ((n / 256 ^ i % 256 : Nat) : Int) = layN n (i + 1) := by
  unfold layN
  rw [List.set_append_right _ _ (by rw [bytesN_length]; exact Nat.le_refl _), bytesN_length, Nat.sub_self, show 16 - i = (16 - (i + 1)) + 1 by omega, List.replicate_succ, List.set_cons_zero, bytesN_succ, List.append_assoc]
  rfl
theorem byte_w0 (n i : Nat) (h : i < 8) : w0 n / 2 ^ (8 * i) % 256 = n / 256 ^ i % 256 := by
  unfold w0
  have : i = 0 ∨ i = 1 ∨ i = 2 ∨ i = 3 ∨ i = 4 ∨ i = 5 ∨ i = 6 ∨ i = 7 := by omega
  rcases this with rfl | rfl | rfl | rfl | rfl | rfl | rfl | rfl <;> omega
theorem byte_w1 (n i : Nat) (h : 8 ≤ i) (h2 : i < 16) : w1 n / 2 ^ (8 * (i - 8)) % 256 = n / 256 ^ i % 256 := by
  unfold w1
  have : i = 8 ∨ i = 9 ∨ i = 10 ∨ i = 11 ∨ i = 12 ∨ i = 13 ∨ i = 14 ∨ i = 15 := by omega
  rcases this with rfl | rfl | rfl | rfl | rfl | rfl | rfl | rfl <;> omega
theorem byte_cast (a k : Nat) : (a : Int) / 2 ^ k % 256 = ((a / 2 ^ k % 256 : Nat) : Int) := by simp
theorem sumI_len (A r0 r1 : Nat) : (sumI A r0 r1).length = 5 := rfl
theorem bI_cut (s : ByteArray) (k : Nat) : bI (s.extract k s.size) = (bI s).drop k := by
  simp [bI]
  rw [List.take_of_length_le (by simp)]
theorem bI_mid (s : ByteArray) (a b : Nat) : bI (s.extract a b) = ((bI s).drop a).take (b - a) := by simp [bI]
theorem bI_ext {a b : ByteArray} (h : bI a = bI b) : a = b := by rw [← str_bI a, h, str_bI]
/-- One round's numbers. -/
theorem round_all (A : Nat) (ks ws : List Int) (k r0 r1 lo hi top : Nat) (hR : r0 + 18446744073709551616 * r1 = clampN ks) (b0 : r0 < 1152921504606846976) (b1 : r1 < 1152921504606846976) (hA : A < BB) (hm : A % PP = accN (clampN ks) ws k)
    (hlo : Wd lo) (hhi : Wd hi) (htop : top ≤ 1) (hN : of3 lo hi top = (nb (partI ws k)).toNat) :
    (A + of3 lo hi top) / 18446744073709551616 / 18446744073709551616 < 8 ∧ redN ((A + of3 lo hi top) * (r0 + 18446744073709551616 * r1)) < BB ∧
      redN ((A + of3 lo hi top) * (r0 + 18446744073709551616 * r1)) % PP = accN (clampN ks) ws (k + 1) := by
  have hb : of3 lo hi top < 680564733841876926926749214863536422912 := by unfold of3 Wd at *; omega
  have hr : r0 + 18446744073709551616 * r1 < 21267647932558653966460912964485513216 := by omega
  obtain ⟨h1, h2⟩ := round_bd A (of3 lo hi top) (r0 + 18446744073709551616 * r1) hA hb hr
  refine ⟨h1, h2, ?_⟩
  rw [hR]
  exact round_acc A _ _ ws k hm hN
set_option maxRecDepth 100000 in
set_option maxHeartbeats 4000000 in
theorem psum_calls (ks : List Int) (s : ByteArray) (hk : ks.length = 32) (bk : U8s ks) (hs : s.size ≤ 100000000) (w : World) :
    Calls Tryd.prog 20 #[.agg (rowI .u8 ks), .string s] w fun e w' => e = .returned (.agg (rowI .u8 (polyI ks (bI s)))) ∧ Below w.heap.size w w' := by
  have e1 : (Tryd.prog.info? 22).map (·.size) = some (rowI .u8 ks).size := by rw [rowI_size, hk]; kernel_rfl
  have H1 := Lib.hid e1
  have HK := Lib.hid hk; have BK := Lib.hid bk
  clear e1 hk bk
  go_enter Tryd.func20, Tryd.ntmps20
  go_wp2_with fail
  generalize hW : (w.alloc _).alloc _ = W0
  have hF0 : Below w.heap.size w W0 ∧ Whole W0 w.heap.size 22 (rowI .u8 ks) ∧ Whole W0 (w.heap.size + 1) 37 (rowI .u8 (List.replicate 16 0)) ∧ w.heap.size + 1 < W0.heap.size := by
    subst hW
    exact ⟨by go_grown, (Whole.new rfl rfl).alloc _, Whole.new (by simp) rfl, by simp⟩
  clear hW
  have hcl : ∀ q, q < 32 → W0.cell? ⟨w.heap.size, 0 + q, none⟩ = some (.int .u8 (ks.getD q 0)) := fun q hq => by
    rw [Nat.zero_add, hF0.2.1.at_, rowI_get .u8 ks q (by rw [HK.out]; exact hq)]; rfl
  rw [run_convert_bytes_arg (P := Tryd.prog) W0 28 5 Tryd.underlying28 Tryd.underlying5 w.heap.size 0 32 32 ks HK.out hcl 9 Tryd.underlying9]
  simp only [Result.andThen]
  rw [Oper.upon_value]
  clear hcl
  have HF0 := Lib.hid hF0
  clear hF0
  obtain ⟨key, hkey⟩ : ∃ key, key = strOfNums ks := ⟨_, rfl⟩
  rw [← hkey]
  have hkb : bI key = ks := by rw [hkey, bI_str (mem_of_U8s BK.out)]
  have hks : key.size = 32 := by rw [← bI_length, hkb, HK.out]
  obtain ⟨k0, hk0⟩ : ∃ x, x = key.extract 0 8 := ⟨_, rfl⟩
  obtain ⟨k1, hk1⟩ : ∃ x, x = key.extract 8 16 := ⟨_, rfl⟩
  have hb0 : bI k0 = ks.take 8 := by rw [hk0, ← hkb]; simp [bI]
  have hb1 : bI k1 = (ks.drop 8).take 8 := by rw [hk1, ← hkb]; simp [bI]
  have z0 : k0.size = 8 := by rw [← bI_length, hb0, List.length_take, HK.out]; rfl
  have z1 : k1.size = 8 := by rw [← bI_length, hb1, List.length_take, List.length_drop, HK.out]; rfl
  obtain ⟨r0, hr0⟩ : ∃ r, r = nW (loB (ks.take 8)) := ⟨_, rfl⟩
  obtain ⟨r1, hr1⟩ : ∃ r, r = nW (hiB ((ks.drop 8).take 8)) := ⟨_, rfl⟩
  have c0 : bits .and .u64 (nW (bI k0) : Nat) 1152921487695413247 = (r0 : Int) := by
    have h := u64_and_nat (nW (bI k0)) 1152921487695413247 (nW_wd _ (U8s_bI k0) (by rw [bI_length, z0]; decide)) (by decide)
    rw [clamp_lo _ (U8s_bI k0) (by rw [bI_length, z0]), hb0, ← hr0] at h
    rw [hb0]; exact h
  have c1 : bits .and .u64 (nW (bI k1) : Nat) 1152921487695413244 = (r1 : Int) := by
    have h := u64_and_nat (nW (bI k1)) 1152921487695413244 (nW_wd _ (U8s_bI k1) (by rw [bI_length, z1]; decide)) (by decide)
    rw [clamp_hi _ (U8s_bI k1) (by rw [bI_length, z1]), hb1, ← hr1] at h
    rw [hb1]; exact h
  have hR : r0 + 18446744073709551616 * r1 = clampN ks := by rw [hr0, hr1, ← clamp_words ks BK.out HK.out]
  have b0 : r0 < 1152921504606846976 := by rw [hr0]; exact loB_bd _ (U8s_take BK.out _)
  have b1 : r1 < 1152921504606846976 := by rw [hr1]; exact hiB_bd _ (U8s_take (U8s_drop BK.out _) _)
  have HKEY := Lib.hid hkey; have HKB := Lib.hid hkb; have HKS := Lib.hid hks; have HR := Lib.hid hR; have B0 := Lib.hid b0; have B1 := Lib.hid b1
  have Z0 := Lib.hid z0; have Z1 := Lib.hid z1; have C0 := Lib.hid c0; have C1 := Lib.hid c1
  have E0 := Lib.hid hk0.symm; have E1 := Lib.hid hk1.symm
  clear hkey hkb hks hR b0 b1 z0 z1 c0 c1 hk0 hk1 hb0 hb1 hr0 hr1
  have i8 : (8 : Int) ≤ key.size := by have := HKS.out; omega
  have i16 : (16 : Int) ≤ key.size := by have := HKS.out; omega
  have e0 := E0.out; have e1 := E1.out; have c0 := C0.out; have c1 := C1.out
  go_wp2_with fail
  refine wp_region_still_tail 10 (by kernel_rfl) (by kernel_rfl) ?_
  simp only [List.take_succ_cons, List.take_zero, List.drop_succ_cons, List.drop_zero]
  change wpStill _ _ W0.drew _ _ _
  iterate 2 still_step
  still_call (num_still k0 (by rw [Z0.out]; decide) _)
  iterate 3 still_step
  still_call (num_still k1 (by rw [Z1.out]; decide) _)
  iterate 3 still_step
  refine wpStill_nil ?_
  change wpList _ _ _ _ _ W0.drew
  go_wp2_with fail
  refine name_wp (fun W => Below w.heap.size w W ∧ Whole W (w.heap.size + 1) 37 (rowI .u8 (List.replicate 16 0)) ∧ Whole W W0.heap.size 91 (rowI .u64 (sumI 0 r0 r1)))
    ⟨(HF0.out.1.alloc HF0.out.1.size _).trans (below_drawnN (Below.refl _ _) 1 : Below _ _ _), (HF0.out.2.2.1.alloc _).drew, (Whole.new (cs' := _) rfl rfl).drew⟩ ?_
  obtain ⟨g, hg⟩ : ∃ g, g = W0.heap.size := ⟨_, rfl⟩
  have hgz : w.heap.size + 1 < g := by rw [hg]; exact HF0.out.2.2.2
  rw [← hg]
  have HGZ := Lib.hid hgz
  clear hg hgz HF0 c0 c1 e0 e1 i8 i16
  intro W1 hF1
  have HF1 := Lib.hid hF1
  clear hF1
  go_loopw [1] (fun v wr => ∃ k A : Nat, 16 * k ≤ s.size ∧ v = .string (s.extract (16 * k) s.size) ∧ A % PP = accN (clampN ks) (bI s) k ∧ A < BB ∧ W1.grownBy wr (some g) ∧ Whole wr g 91 (rowI .u64 (sumI A r0 r1))) (fun v _ => match v with | .string t => t.size | _ => 0)
  case atStart => exact ⟨0, 0, by omega, by rw [show s.extract (16 * 0) s.size = s from bI_ext (by rw [bI_cut]; rfl)], by simp [accN], by decide +kernel, World.grownBy.refl _ _, HF1.out.2.2⟩
  case round =>
    obtain ⟨k, A, hk, rfl, hm, hAB, hgr, hw⟩ := hrel
    obtain ⟨t, ht⟩ : ∃ t, t = s.extract (16 * k) s.size := ⟨_, rfl⟩
    have htb : bI t = (bI s).drop (16 * k) := by rw [ht, bI_cut]
    have hts : t.size = s.size - 16 * k := by rw [← bI_length, htb, List.length_drop, bI_length]
    rw [← ht]
    have HM := Lib.hid hm; have HAB := Lib.hid hAB; have HGR := Lib.hid hgr; have HW := Lib.hid hw
    have HT := Lib.hid ht; have HTB := Lib.hid htb; have HTS := Lib.hid hts
    clear hm hAB hgr hw ht htb
    by_cases h16 : 16 ≤ t.size
    · have i16 : (16 : Int) ≤ t.size := by omega
      have i8 : (8 : Int) ≤ t.size := by omega
      obtain ⟨p0, hp0⟩ : ∃ x, x = t.extract 0 8 := ⟨_, rfl⟩
      obtain ⟨p1, hp1⟩ : ∃ x, x = t.extract 8 16 := ⟨_, rfl⟩
      have hb0 : bI p0 = ((bI s).drop (16 * k)).take 8 := by rw [hp0, bI_mid, HTB.out]; rfl
      have hb1 : bI p1 = (((bI s).drop (16 * k)).drop 8).take 8 := by rw [hp1, bI_mid, HTB.out]
      have z0 : p0.size ≤ 8 := by rw [← bI_length, hb0, List.length_take]; omega
      have z1 : p1.size ≤ 8 := by rw [← bI_length, hb1, List.length_take]; omega
      have hN : of3 (nW (bI p0)) (nW (bI p1)) 1 = (nb (partI (bI s) k)).toNat := by
        rw [hb0, hb1]
        exact part_whole _ _ (U8s_bI s) (by rw [bI_length]; omega)
      have w0' := nW_wd _ (U8s_bI p0) (by rw [bI_length]; exact z0)
      have w1' := nW_wd _ (U8s_bI p1) (by rw [bI_length]; exact z1)
      obtain ⟨q1, q2, q3⟩ := round_all A ks (bI s) k r0 r1 _ _ 1 HR.out B0.out B1.out HAB.out HM.out w0' w1' (by decide) hN
      have hnx : t.extract 16 t.size = s.extract (16 * (k + 1)) s.size := bI_ext (by rw [bI_cut, bI_cut, HTB.out, List.drop_drop, Nat.mul_add])
      have hnz : (s.extract (16 * (k + 1)) s.size).size = t.size - 16 := by rw [← bI_length, bI_cut, List.length_drop, bI_length]; omega
      have hk1 : 16 * (k + 1) ≤ s.size := by omega
      have Z0 := Lib.hid z0; have Z1 := Lib.hid z1; have Q := Lib.hid (And.intro q1 (And.intro q2 q3)); have WW := Lib.hid (And.intro w0' w1')
      have HNZ := Lib.hid hnz; have E0 := Lib.hid hp0.symm; have E1 := Lib.hid hp1.symm; have HNX := Lib.hid hnx; have HK1 := Lib.hid hk1; have H16 := Lib.hid h16
      clear hb0 hb1 z0 z1 hN w0' w1' q1 q2 q3 hnx hnz hp0 hp1 hk1 hts h16
      have e0 := E0.out; have e1 := E1.out; have hnx := HNX.out
      go_wp2_with fail
      refine wp_region_still_tail 7 (by kernel_rfl) (by kernel_rfl) ?_
      simp only [List.take_succ_cons, List.take_zero, List.drop_succ_cons, List.drop_zero]
      change wpStill _ _ wr.drew _ _ _
      iterate 3 still_step
      still_call (num_still p0 Z0.out _)
      iterate 2 still_step
      still_call (num_still p1 Z1.out _)
      refine wpStill_nil ?_
      change wpList _ _ _ _ _ wr.drew
      go_wp2_with fail
      refine (sadd_calls g _ A r0 r1 _ _ 1 WW.out.1 WW.out.2 (by decide) wr.drew HW.out.drew).mono ?_
      rintro e W2 ⟨rfl, U2⟩
      have HU2 := Lib.hid U2
      clear U2
      go_wp2_with fail
      refine (smul_calls g _ _ r0 r1 Q.out.1 B0.out B1.out W2 HU2.out.blk).mono ?_
      rintro e W3 ⟨rfl, hg3, hw3⟩
      have HG3 := Lib.hid hg3; have HW3 := Lib.hid hw3
      clear hg3 hw3
      go_wp2_with fail
      go_roundw
      case rel => exact ⟨k + 1, _, HK1.out, rfl, Q.out.2.2, Q.out.2.1, only_trans (only_trans (only_drawn HGR.out) HU2.out.only) HG3.out, HW3.out⟩
      case measure => simp [HNZ.out]; have := H16.out; omega
    · have i16 : ¬ (16 : Int) ≤ t.size := by omega
      have hR2 := HR.out
      by_cases ht0 : t.size = 0
      case' pos =>
        have hte : t = { data := #[] } := bI_ext (List.eq_nil_of_length_eq_zero (by rw [bI_length]; exact ht0))
        have hpk : k = ((bI s).length + 15) / 16 := by rw [bI_length]; omega
        obtain ⟨A', hA'⟩ : ∃ A', A' = A := ⟨_, rfl⟩
        have HM' := Lib.hid (show A' % PP = accN (clampN ks) (bI s) (((bI s).length + 15) / 16) by rw [← hpk, hA']; exact HM.out)
        have HAB' := Lib.hid (show A' < BB by rw [hA']; exact HAB.out)
        have HW' := Lib.hid (show Whole wr g 91 (rowI .u64 (sumI A' r0 r1)) by rw [hA']; exact HW.out)
        have HGR' := Lib.hid (show W1.grownBy wr (some g) from HGR.out)
        subst hte
        clear hA' hpk ht0 hts hR2 i16
        have i16 : ¬ (16 : Int) ≤ ((0 : Nat) : Int) := by omega
        go_wp2_with fail
        generalize wr = W' at HW' HGR' ⊢
      case' neg =>
        have hne : ¬ t.toList = [] := fun h => ht0 (by rw [ByteArray.toList_eq] at h; have := congrArg List.length h; simpa using this)
        have hne3 : t.toList.isEmpty = false := by simpa using hne
        have hne4 : (!t.toList.isEmpty) = true := by simpa using hne
        have hne2 := toList_ne (b := { data := #[] }) (fun h : t = { data := #[] } => ht0 (by rw [h]; rfl))
        obtain ⟨c, hc⟩ : ∃ c : Nat, c = 15 - t.size := ⟨_, rfl⟩
        have i15 : (15 : Int) - t.size = c := by omega
        have z1 : (ByteArray.mk #[1]).size = 1 := rfl
        have hcs : t.size + (ByteArray.mk #[1]).size ≤ 100 := by omega
        have hpk : k + 1 = ((bI s).length + 15) / 16 := by rw [bI_length]; omega
        obtain ⟨zs, hzs⟩ : ∃ zs, zs = (⟨(Lib.repeatL (ByteArray.mk #[0]).data.toList c).toArray⟩ : ByteArray) := ⟨_, rfl⟩
        have hzb : bI zs = List.replicate c 0 := by rw [hzs, repeat_zeros]
        have hzz : zs.size = c := by rw [← bI_length, hzb, List.length_replicate]
        obtain ⟨rs, hrs⟩ : ∃ rs, rs = t ++ ByteArray.mk #[1] ++ zs := ⟨_, rfl⟩
        have hrb : bI rs = (bI t ++ [1]) ++ List.replicate c 0 := by rw [hrs, bI_cat, bI_cat, hzb]; rfl
        have hrz : rs.size = 16 := by rw [← bI_length, hrb, List.length_append, List.length_append, List.length_replicate, bI_length]; simp; omega
        have hcs2 : (t ++ ByteArray.mk #[1]).size + zs.size ≤ 200 := by rw [ByteArray.size_append, hzz]; omega
        obtain ⟨p0, hp0⟩ : ∃ x, x = rs.extract 0 8 := ⟨_, rfl⟩
        obtain ⟨p1, hp1⟩ : ∃ x, x = rs.extract 8 rs.size := ⟨_, rfl⟩
        have hb0 : bI p0 = (bI rs).take 8 := by rw [hp0, bI_mid]; rfl
        have hb1 : bI p1 = (bI rs).drop 8 := by rw [hp1, bI_cut]
        have y0 : p0.size ≤ 8 := by rw [← bI_length, hb0, List.length_take]; omega
        have y1 : p1.size ≤ 8 := by rw [← bI_length, hb1, List.length_drop, bI_length]; omega
        have hN : of3 (nW (bI p0)) (nW (bI p1)) 0 = (nb (partI (bI s) k)).toNat := by
          rw [hb0, hb1, part_last (bI rs) (U8s_bI rs) (by rw [bI_length, hrz]) c _ hrb]
          unfold partI
          rw [HTB.out, List.take_of_length_le (by rw [List.length_drop, bI_length]; omega)]
        have w0' := nW_wd _ (U8s_bI p0) (by rw [bI_length]; exact y0)
        have w1' := nW_wd _ (U8s_bI p1) (by rw [bI_length]; exact y1)
        obtain ⟨q1, q2, q3⟩ := round_all A ks (bI s) k r0 r1 _ _ 0 HR.out B0.out B1.out HAB.out HM.out w0' w1' (by decide) hN
        rw [hpk] at q3
        have Y0 := Lib.hid y0; have Y1 := Lib.hid y1; have Q1 := Lib.hid q1; have HAB' := Lib.hid q2; have HM' := Lib.hid q3; have WW := Lib.hid (And.intro w0' w1')
        have E0 := Lib.hid hp0.symm; have E1 := Lib.hid hp1.symm; have HZS := Lib.hid hzs; have HRS := Lib.hid hrs.symm; have HCS2 := Lib.hid hcs2; have HC := Lib.hid hc; have I8 := Lib.hid (show (8 : Int) ≤ rs.size by omega)
        clear hR2 hc hpk hzs hzb hzz hrs hrb hrz hcs2 hp0 hp1 hb0 hb1 y0 y1 hN w0' w1' q1 q2 q3 hts ht0 z1
        go_wp2_with fail
        refine (Tryd.strings_Repeat ⟨#[0]⟩ c wr (by have := HC.out; omega) (by have := HC.out; show 1 * c ≤ _; omega)).mono ?_
        rw [← HZS.out]
        rintro e W2 ⟨rfl, hb2⟩
        have HGR2 := Lib.hid (only_trans HGR.out (only_of_below hb2 _)); have HW2 := Lib.hid (HW.out.below hb2 HW.out.inside)
        have hcs2 := HCS2.out; have hrs := HRS.out; have i8 := I8.out; have e0 := E0.out; have e1 := E1.out
        clear hb2
        go_wp2_with fail
        refine wp_region_still_tail 7 (by kernel_rfl) (by kernel_rfl) ?_
        simp only [List.take_succ_cons, List.take_zero, List.drop_succ_cons, List.drop_zero]
        change wpStill _ _ W2.drew _ _ _
        iterate 3 still_step
        still_call (num_still p0 Y0.out _)
        iterate 2 still_step
        still_call (num_still p1 Y1.out _)
        refine wpStill_nil ?_
        change wpList _ _ _ _ _ W2.drew
        go_wp2_with fail
        refine (sadd_calls g _ A r0 r1 _ _ 0 WW.out.1 WW.out.2 (by decide) W2.drew HW2.out.drew).mono ?_
        rintro e W3 ⟨rfl, U3⟩
        have HU3 := Lib.hid U3
        clear U3
        go_wp2_with fail
        refine (smul_calls g _ _ r0 r1 Q1.out B0.out B1.out W3 HU3.out.blk).mono ?_
        rintro e W4 ⟨rfl, hg4, hw4⟩
        have HW' := Lib.hid hw4
        have HGR' := Lib.hid (only_trans (only_trans (only_drawn HGR2.out) HU3.out.only) hg4)
        clear hg4 hw4
        go_wp2_with fail
        generalize redN ((A + of3 (nW (bI p0)) (nW (bI p1)) 0) * (r0 + 18446744073709551616 * r1)) = A' at HM' HAB' HW'
        generalize W4 = W' at HW' HGR' ⊢
      all_goals
        refine (sless_calls g _ A' r0 r1 (BB_words A' HAB'.out) W' HW'.out).mono ?_
        rw [less_mod A' HAB'.out, HM'.out]
        rintro e W5 ⟨rfl, U5⟩
        obtain ⟨k2, hk2⟩ : ∃ x, x = key.extract 16 24 := ⟨_, rfl⟩
        obtain ⟨k3, hk3⟩ : ∃ x, x = key.extract 24 key.size := ⟨_, rfl⟩
        have hb2 : bI k2 = (ks.drop 16).take 8 := by rw [hk2, bI_mid, HKB.out]
        have hb3 : bI k3 = (ks.drop 16).drop 8 := by rw [hk3, bI_cut, HKB.out, List.drop_drop]
        have y2 : k2.size ≤ 8 := by rw [← bI_length, hb2, List.length_take]; omega
        have y3 : k3.size ≤ 8 := by rw [← bI_length, hb3, List.length_drop, List.length_drop, HK.out]; decide
        have w2' := nW_wd _ (U8s_bI k2) (by rw [bI_length]; exact y2)
        have w3' := nW_wd _ (U8s_bI k3) (by rw [bI_length]; exact y3)
        have hN : accN (clampN ks) (bI s) (((bI s).length + 15) / 16) + of3 (nW (bI k2)) (nW (bI k3)) 0 = polyN ks (bI s) := by
          unfold polyN
          congr 1
          rw [hb2, hb3, part_last (ks.drop 16) (U8s_drop BK.out _) (by rw [List.length_drop, HK.out]) 0 (ks.drop 16) (by simp)]
        have Y2 := Lib.hid y2; have Y3 := Lib.hid y3; have WW' := Lib.hid (And.intro w2' w3'); have HN := Lib.hid hN
        have HU5 := Lib.hid U5
        have j1 : (24 : Int) ≤ key.size := by have := HKS.out; omega
        have e2 := hk2.symm; have e3 := hk3.symm
        clear hk2 hk3 hb2 hb3 y2 y3 w2' w3' hN U5
        go_wp2_with fail
        refine wp_region_still_tail 7 (by kernel_rfl) (by kernel_rfl) ?_
        simp only [List.take_succ_cons, List.take_zero, List.drop_succ_cons, List.drop_zero]
        change wpStill _ _ W5.drew _ _ _
        iterate 3 still_step
        still_call (num_still k2 Y2.out _)
        iterate 2 still_step
        still_call (num_still k3 Y3.out _)
        refine wpStill_nil ?_
        change wpList _ _ _ _ _ W5.drew
        clear e2 e3 j1
        go_wp2_with fail
        refine (sadd_calls g _ _ r0 r1 _ _ 0 WW'.out.1 WW'.out.2 (by decide) W5.drew HU5.out.blk.drew).mono ?_
        rw [HN.out]
        rintro e W6 ⟨rfl, U6⟩
        have hgr6 := only_trans (only_trans HGR'.out (only_drawn HU5.out.only)) U6.only
        have HU6 := Lib.hid U6.blk
        have HB6 := Lib.hid (HF1.out.1.grown hgr6 HF1.out.1.size (fun q hq => by injection hq with hq; have := HGZ.out; omega))
        have HR6 := Lib.hid (HF1.out.2.1.only hgr6 (ne_some (by have := HGZ.out; omega)))
        clear hgr6 U6
        go_wp2_with fail
        obtain ⟨go, hgo⟩ : ∃ go, go = W6.heap.size := ⟨_, rfl⟩
        have l1 : g < go := by rw [hgo]; exact HU6.out.inside
        have l2 : w.heap.size + 1 < go := by have := HGZ.out; omega
        refine name_wp (fun W => Below w.heap.size w W ∧ Whole W (w.heap.size + 1) 37 (rowI .u8 (List.replicate 16 0)) ∧ Whole W g 91 (rowI .u64 (sumI (polyN ks (bI s)) r0 r1)) ∧ Whole W go 37 (rowI .u8 (List.replicate 16 0)))
          ⟨HB6.out.alloc HB6.out.size _, HR6.out.alloc _, HU6.out.alloc _, Whole.new hgo.symm rfl⟩ ?_
        rw [← hgo]
        have L1 := Lib.hid l1; have L2 := Lib.hid l2
        clear HB6 HR6 HU6 hgo l1 l2 HU5
        intro W7 ⟨hB7, hr7, hu7, ho7⟩
        have hpolyl : bytesN (polyN ks (bI s)) 16 = polyI ks (bI s) := rfl
        obtain ⟨N, hNN⟩ : ∃ N, N = polyN ks (bI s) := ⟨_, rfl⟩
        rw [← hNN] at hu7 hpolyl
        have HPL := Lib.hid hpolyl; have HB7 := Lib.hid hB7; have HR7 := Lib.hid hr7; have HU7 := Lib.hid hu7; have HO7 := Lib.hid ho7
        clear hNN hpolyl hB7 hr7 hu7 ho7
        go_loopw [67] (fun i wr => ∃ n : Nat, n ≤ 16 ∧ i = .int .i64 n ∧ Upd W7 wr go 37 .u8 (layN N n)) (fun i _ => 16 - (intOf i).toNat)
        case atStart => exact ⟨0, by omega, rfl, by rw [layN_zero]; exact Upd.start HO7.out⟩
        case round =>
          obtain ⟨n, hn, rfl, U⟩ := hrel
          have hll := layN_length N n hn
          have HU := Lib.hid U; have HLL := Lib.hid hll
          clear U hll
          by_cases h1 : n < 16
          · have i1 : (n : Int) < 16 := by omega
            have cO := HU.out.cell n (by rw [HLL.out]; exact h1)
            have fO := HU.out.frozen n
            have hst := layN_set N n h1
            have HST := Lib.hid hst
            clear hst
            by_cases h8 : n < 8
            · have cw : _root_.Go.World.cell? wr ⟨g, 0, none⟩ = some (.int .u64 (w0 N : Nat)) := (HU.out.other HU7.out (by have := L1.out; omega)).int 0 (by rw [sumI_len]; decide)
              have d1 : (n : Int) / 8 = 0 := by omega
              have d2 : (n : Int) % 8 = n := by omega
              have hbv := byte_w0 N n h8
              have HBV := Lib.hid hbv
              clear hbv
              go_wp2_with fail
              go_roundw
              case rel => exact ⟨n + 1, by omega, by go_num, by rw [byte_cast, HBV.out, ← HST.out]; exact HU.out.set n _⟩
              case measure => simp [intOf]; omega
            · have cw : _root_.Go.World.cell? wr ⟨g, 1, none⟩ = some (.int .u64 (w1 N : Nat)) := (HU.out.other HU7.out (by have := L1.out; omega)).int 1 (by rw [sumI_len]; decide)
              obtain ⟨m, hm⟩ : ∃ m, m = n - 8 := ⟨_, rfl⟩
              have d1 : (n : Int) / 8 = 1 := by omega
              have d2 : (n : Int) % 8 = m := by omega
              have hbv := byte_w1 N n (by omega) h1
              rw [← hm] at hbv
              have d3 : m < 8 := by omega
              have HBV := Lib.hid hbv
              clear hbv hm
              go_wp2_with fail
              go_roundw
              case rel => exact ⟨n + 1, by omega, by go_num, by rw [byte_cast, HBV.out, ← HST.out]; exact HU.out.set n _⟩
              case measure => simp [intOf]; omega
          · obtain rfl : n = 16 := by omega
            have ho := HU.out.blk
            rw [layN_end, HPL.out] at ho
            have hB8 := HU.out.below HB7.out (by have := L2.out; omega) HB7.out.size
            have hr8 := HU.out.other HR7.out (by have := L2.out; omega)
            obtain ⟨Z, hZ⟩ : ∃ Z, Z = polyI ks (bI s) := ⟨_, rfl⟩
            have hZl : Z.length = 16 := by rw [hZ]; exact bytesN_length _ _
            rw [← hZ] at ho
            have hs16 : (Tryd.prog.info? 37).map (·.size) = some (rowI .u8 Z).size := by rw [rowI_size, hZl]; kernel_rfl
            have HZ := Lib.hid hZ; have HS := Lib.hid hs16; have HZL := Lib.hid hZl
            clear hZ hs16 hZl
            go_wp2_with (first
              | (refine wpList_load_row rfl 37 (.tmp 8) rfl _ rfl 37 (rowI .u8 Z) (0, 0) _ ho Tryd.underlying37 rfl HS.out ?_)
              | (refine wpList_store_row rfl 37 (.tmp 4) (.tmp 85) rfl (w.heap.size + 1) (rowI .u8 Z) rfl rfl 37 _ hr8 HS.out (by simp [rowI_size, HZL.out]) (rowI_one _ _) ?_))
            refine bodyPost_ret (results_cell_row (fn := Tryd.f20) (p := 4) rfl _ _ (w.heap.size + 1) 37 (rowI .u8 Z) (0, 0) _ rfl (Whole.row hr8) Tryd.underlying37 rfl HS.out) rfl ⟨by rw [HZ.out], ?_⟩
            exact hB8.grown (only_row wr (w.heap.size + 1) _) hB8.size (fun k hk => by injection hk with hk; omega)
end Go.Proofs.YtfoljmpphbhobaaDoor
