/- The reference of packet: Read. (Printed by genread.py.) -/
import Derived.Test.YtfoljmpphbhobaaGreatDoorRef12
import Derived.Test.YtfoljmpphbhobaaGreatDoorPack6
namespace Go.Proofs.YtfoljmpphbhobaaGreatDoor
open Go.RowKit Go.Spk
set_option linter.unusedVariables false
attribute [local go_sem ↓] Go.wp_at_zero Go.wp_at_succ
theorem str_rawR {L : Nat} (b : Bool) (m : Nat) (s : ByteArray) (ks : List Int) (n : Nat) (hb : b = false) (hL : L = allR b m) : s.extract 4 L = strOfNums (bodyR b ks n m (bI s)) := by
  subst hb
  subst hL
  apply bI_ext
  rw [bI_str (bodyR_u8 false ks n m s), bI_mid]
  unfold bodyR rawR allR
  simp only [Bool.false_eq_true, if_false]
  congr 1
  omega
theorem open_raw (ks : List Int) (n m : Nat) (s : ByteArray) : strOfNums (openS ks (nonceN n) (bI (s.extract 4 (allR true m))) (bI (s.extract 0 4))) = strOfNums (bodyR true ks n m (bI s)) ∧ openC ks (nonceN n) (bI (s.extract 4 (allR true m))) (bI (s.extract 0 4)) = bodyC true ks n m (bI s) := by
  have e1 : bI (s.extract 0 4) = (bI s).take 4 := by rw [bI_mid]; rfl
  have e2 : bI (s.extract 4 (allR true m)) = rawR true m (bI s) := by rw [bI_mid]; unfold rawR allR; congr 1; omega
  rw [e1, e2]
  exact ⟨rfl, rfl⟩
theorem results_tmp4 {fn : Func} {t u v x : Tmp} (h : fn.results = #[.tmp t, .tmp u, .tmp v, .tmp x]) (tmps : Array Value) (P : Program) (w : World) :
    (results fn tmps).run P w = .ok (.tuple #[tmps.getD t undef, tmps.getD u undef, tmps.getD v undef, tmps.getD x undef]) w := by
  simp [results, h]
set_option maxHeartbeats 1000000 in
theorem rread_short (b : Bool) (ks : List Int) (n : Nat) (s : ByteArray) (hs : s.size < 4) (w : World) :
    Calls Tryz.prog 17 #[.string s, .string (keyS b ks), .int .i64 n] w fun e w' => e = .returned (.tuple #[.string ⟨#[]⟩, .string s, .bool false, .int .i64 0]) ∧ Below w.heap.size w w' := by
  have i4 : (s.size : Int) < 4 := by omega
  go_enter Tryz.func17, Tryz.ntmps17
  go_wp2_with fail
  try simp only [Exit.inBlock, Exit.then]
  refine bodyPost_ret (results_tmp4 rfl _ _ _) rfl ?_
  exact ⟨rfl, Below.refl _ _⟩
set_option maxRecDepth 100000 in
set_option maxHeartbeats 4000000 in
theorem rread_big (b : Bool) (ks : List Int) (n : Nat) (s : ByteArray) (hk : ks.length = 32) (bk : U8s ks) (hn : n ≤ 1000000000) (hs : s.size ≤ 1000000) (h4 : 4 ≤ s.size) (hb : 33024 < lenR (bI s)) (w : World) :
    Calls Tryz.prog 17 #[.string s, .string (keyS b ks), .int .i64 n] w fun e w' => e = .returned (.tuple #[.string ⟨#[]⟩, .string ⟨#[]⟩, .bool false, .int .i64 4]) ∧ Below w.heap.size w w' := by
  have i4 : ¬ (s.size : Int) < 4 := by omega
  have i4b : (4 : Int) ≤ s.size := by omega
  obtain ⟨hm, hmb⟩ := lenR_int s
  generalize lenR (bI s) = m at hm hmb hb
  have i5 : (33024 : Int) < m := by omega
  have HM := Lib.hid hm
  have HK := Lib.hid hk; have BK := Lib.hid bk; have HN := Lib.hid hn
  clear hm hk bk hn
  cases b
  · have hke : keyS false ks = ⟨#[]⟩ := rfl
    rw [hke]
    clear hke
    go_enter Tryz.func17, Tryz.ntmps17
    go_wp2_with fail
    go_loop [10, 11] (fun nv iv => ∃ k : Nat, k ≤ 4 ∧ iv = .int .i64 k ∧ nv = .int .i64 (numT (bI s) k)) (fun _ iv => 4 - (intOf iv).toNat)
    case atStart => exact ⟨0, by omega, rfl, rfl⟩
    case round =>
      obtain ⟨k, hk4, rfl, rfl⟩ := hrel
      by_cases hlt : k < 4
      · have ii : (k : Int) < 4 := by omega
        have gs : ∀ h : k < s.size, ((s[k]'h).toNat : Int) = ix (bI s) k := fun h => (ix_bI s k h).symm
        have hnb := numT_bd (bI s) (U8s_bI s) k
        have hp : (256 : Int) ^ k ≤ 16777216 := by rcases (by omega : k = 0 ∨ k = 1 ∨ k = 2 ∨ k = 3) with h | h | h | h <;> (rw [h]; decide)
        have hx0 : 0 ≤ numT (bI s) k := hnb.1
        have hx1 : numT (bI s) k < 16777216 := by omega
        have hu0 := (U8s_bI s k).1
        have hu1 := (U8s_bI s k).2
        have iik : (k : Int) < s.size := by omega
        have HS := Lib.hid (show numT (bI s) (k + 1) = 256 * numT (bI s) k + ix (bI s) k by rw [numT]; omega)
        clear hnb hp
        go_wp2_with fail
        go_round
        case rel => exact ⟨k + 1, by omega, by go_num, by rw [HS.out]⟩
        case measure => simp [intOf]; omega
      · obtain rfl : k = 4 := by omega
        rw [HM.out]
        go_wp2_with fail
        try simp only [Exit.inBlock, Exit.then]
        refine bodyPost_ret (results_tmp4 rfl _ _ _) rfl ?_
        exact ⟨rfl, Below.refl _ _⟩
  · have hke : keyS true ks = strOfNums ks := rfl
    rw [hke]
    obtain ⟨key, hkey⟩ : ∃ key, key = strOfNums ks := ⟨_, rfl⟩
    rw [← hkey]
    have HKS := Lib.hid (show key.size = 32 ∧ bI key = ks by rw [hkey, str_size, HK.out]; exact ⟨rfl, bI_str (mem_of_U8s BK.out)⟩)
    have hkn := str_ne (p := key) (by rw [HKS.out.1]; decide)
    have hkn3 : key.toList.isEmpty = false := by simpa using hkn
    have hkn4 : (!key.toList.isEmpty) = true := by simpa using hkn
    clear hke hkey
    go_enter Tryz.func17, Tryz.ntmps17
    go_wp2_with fail
    go_loop [10, 11] (fun nv iv => ∃ k : Nat, k ≤ 4 ∧ iv = .int .i64 k ∧ nv = .int .i64 (numT (bI s) k)) (fun _ iv => 4 - (intOf iv).toNat)
    case atStart => exact ⟨0, by omega, rfl, rfl⟩
    case round =>
      obtain ⟨k, hk4, rfl, rfl⟩ := hrel
      by_cases hlt : k < 4
      · have ii : (k : Int) < 4 := by omega
        have gs : ∀ h : k < s.size, ((s[k]'h).toNat : Int) = ix (bI s) k := fun h => (ix_bI s k h).symm
        have hnb := numT_bd (bI s) (U8s_bI s) k
        have hp : (256 : Int) ^ k ≤ 16777216 := by rcases (by omega : k = 0 ∨ k = 1 ∨ k = 2 ∨ k = 3) with h | h | h | h <;> (rw [h]; decide)
        have hx0 : 0 ≤ numT (bI s) k := hnb.1
        have hx1 : numT (bI s) k < 16777216 := by omega
        have hu0 := (U8s_bI s k).1
        have hu1 := (U8s_bI s k).2
        have iik : (k : Int) < s.size := by omega
        have HS := Lib.hid (show numT (bI s) (k + 1) = 256 * numT (bI s) k + ix (bI s) k by rw [numT]; omega)
        clear hnb hp
        go_wp2_with fail
        go_round
        case rel => exact ⟨k + 1, by omega, by go_num, by rw [HS.out]⟩
        case measure => simp [intOf]; omega
      · obtain rfl : k = 4 := by omega
        rw [HM.out]
        go_wp2_with fail
        try simp only [Exit.inBlock, Exit.then]
        refine bodyPost_ret (results_tmp4 rfl _ _ _) rfl ?_
        exact ⟨rfl, Below.refl _ _⟩
set_option maxRecDepth 100000 in
set_option maxHeartbeats 4000000 in
theorem rread_form1 (b : Bool) (ks : List Int) (n : Nat) (s : ByteArray) (hk : ks.length = 32) (bk : U8s ks) (hn : n ≤ 1000000000) (hs : s.size ≤ 1000000) (h4 : 4 ≤ s.size) (hb : lenR (bI s) ≤ 33024) (hf : lenR (bI s) + aheadN b < aheadN b * 2 + 8) (w : World) :
    Calls Tryz.prog 17 #[.string s, .string (keyS b ks), .int .i64 n] w fun e w' => e = .returned (.tuple #[.string ⟨#[]⟩, .string ⟨#[]⟩, .bool false, .int .i64 3]) ∧ Below w.heap.size w w' := by
  have i4 : ¬ (s.size : Int) < 4 := by omega
  have i4b : (4 : Int) ≤ s.size := by omega
  obtain ⟨hm, hmb⟩ := lenR_int s
  generalize lenR (bI s) = m at hm hmb hb hf
  have i5 : ¬ (33024 : Int) < m := by omega
  have HM := Lib.hid hm
  have HK := Lib.hid hk; have BK := Lib.hid bk; have HN := Lib.hid hn
  clear hm hk bk hn
  cases b
  · have hke : keyS false ks = ⟨#[]⟩ := rfl
    rw [hke]
    clear hke
    go_enter Tryz.func17, Tryz.ntmps17
    go_wp2_with fail
    go_loop [10, 11] (fun nv iv => ∃ k : Nat, k ≤ 4 ∧ iv = .int .i64 k ∧ nv = .int .i64 (numT (bI s) k)) (fun _ iv => 4 - (intOf iv).toNat)
    case atStart => exact ⟨0, by omega, rfl, rfl⟩
    case round =>
      obtain ⟨k, hk4, rfl, rfl⟩ := hrel
      by_cases hlt : k < 4
      · have ii : (k : Int) < 4 := by omega
        have gs : ∀ h : k < s.size, ((s[k]'h).toNat : Int) = ix (bI s) k := fun h => (ix_bI s k h).symm
        have hnb := numT_bd (bI s) (U8s_bI s) k
        have hp : (256 : Int) ^ k ≤ 16777216 := by rcases (by omega : k = 0 ∨ k = 1 ∨ k = 2 ∨ k = 3) with h | h | h | h <;> (rw [h]; decide)
        have hx0 : 0 ≤ numT (bI s) k := hnb.1
        have hx1 : numT (bI s) k < 16777216 := by omega
        have hu0 := (U8s_bI s k).1
        have hu1 := (U8s_bI s k).2
        have iik : (k : Int) < s.size := by omega
        have HS := Lib.hid (show numT (bI s) (k + 1) = 256 * numT (bI s) k + ix (bI s) k by rw [numT]; omega)
        clear hnb hp
        go_wp2_with fail
        go_round
        case rel => exact ⟨k + 1, by omega, by go_num, by rw [HS.out]⟩
        case measure => simp [intOf]; omega
      · obtain rfl : k = 4 := by omega
        rw [HM.out]
        have j1 : (m : Int) < 12 := by have h := hf; rw [show aheadN false = 4 from rfl] at h; omega
        clear hf
        go_wp2_with fail
        try simp only [Exit.inBlock, Exit.then]
        refine bodyPost_ret (results_tmp4 rfl _ _ _) rfl ?_
        exact ⟨rfl, Below.refl _ _⟩
  · have hke : keyS true ks = strOfNums ks := rfl
    rw [hke]
    obtain ⟨key, hkey⟩ : ∃ key, key = strOfNums ks := ⟨_, rfl⟩
    rw [← hkey]
    have HKS := Lib.hid (show key.size = 32 ∧ bI key = ks by rw [hkey, str_size, HK.out]; exact ⟨rfl, bI_str (mem_of_U8s BK.out)⟩)
    have hkn := str_ne (p := key) (by rw [HKS.out.1]; decide)
    have hkn3 : key.toList.isEmpty = false := by simpa using hkn
    have hkn4 : (!key.toList.isEmpty) = true := by simpa using hkn
    clear hke hkey
    go_enter Tryz.func17, Tryz.ntmps17
    go_wp2_with fail
    go_loop [10, 11] (fun nv iv => ∃ k : Nat, k ≤ 4 ∧ iv = .int .i64 k ∧ nv = .int .i64 (numT (bI s) k)) (fun _ iv => 4 - (intOf iv).toNat)
    case atStart => exact ⟨0, by omega, rfl, rfl⟩
    case round =>
      obtain ⟨k, hk4, rfl, rfl⟩ := hrel
      by_cases hlt : k < 4
      · have ii : (k : Int) < 4 := by omega
        have gs : ∀ h : k < s.size, ((s[k]'h).toNat : Int) = ix (bI s) k := fun h => (ix_bI s k h).symm
        have hnb := numT_bd (bI s) (U8s_bI s) k
        have hp : (256 : Int) ^ k ≤ 16777216 := by rcases (by omega : k = 0 ∨ k = 1 ∨ k = 2 ∨ k = 3) with h | h | h | h <;> (rw [h]; decide)
        have hx0 : 0 ≤ numT (bI s) k := hnb.1
        have hx1 : numT (bI s) k < 16777216 := by omega
        have hu0 := (U8s_bI s k).1
        have hu1 := (U8s_bI s k).2
        have iik : (k : Int) < s.size := by omega
        have HS := Lib.hid (show numT (bI s) (k + 1) = 256 * numT (bI s) k + ix (bI s) k by rw [numT]; omega)
        clear hnb hp
        go_wp2_with fail
        go_round
        case rel => exact ⟨k + 1, by omega, by go_num, by rw [HS.out]⟩
        case measure => simp [intOf]; omega
      · obtain rfl : k = 4 := by omega
        rw [HM.out]
        have j1 : (m : Int) < 8 := by have h := hf; rw [show aheadN true = 0 from rfl] at h; omega
        clear hf
        go_wp2_with fail
        try simp only [Exit.inBlock, Exit.then]
        refine bodyPost_ret (results_tmp4 rfl _ _ _) rfl ?_
        exact ⟨rfl, Below.refl _ _⟩
set_option maxRecDepth 100000 in
set_option maxHeartbeats 4000000 in
theorem rread_form2 (b : Bool) (ks : List Int) (n : Nat) (s : ByteArray) (hk : ks.length = 32) (bk : U8s ks) (hn : n ≤ 1000000000) (hs : s.size ≤ 1000000) (h4 : 4 ≤ s.size) (hb : lenR (bI s) ≤ 33024) (hf : ¬ lenR (bI s) + aheadN b < aheadN b * 2 + 8) (hg : (lenR (bI s) + aheadN b) % 8 ≠ 0) (w : World) :
    Calls Tryz.prog 17 #[.string s, .string (keyS b ks), .int .i64 n] w fun e w' => e = .returned (.tuple #[.string ⟨#[]⟩, .string ⟨#[]⟩, .bool false, .int .i64 3]) ∧ Below w.heap.size w w' := by
  have i4 : ¬ (s.size : Int) < 4 := by omega
  have i4b : (4 : Int) ≤ s.size := by omega
  obtain ⟨hm, hmb⟩ := lenR_int s
  generalize lenR (bI s) = m at hm hmb hb hf hg
  have i5 : ¬ (33024 : Int) < m := by omega
  have HM := Lib.hid hm
  have HK := Lib.hid hk; have BK := Lib.hid bk; have HN := Lib.hid hn
  clear hm hk bk hn
  cases b
  · have hke : keyS false ks = ⟨#[]⟩ := rfl
    rw [hke]
    clear hke
    go_enter Tryz.func17, Tryz.ntmps17
    go_wp2_with fail
    go_loop [10, 11] (fun nv iv => ∃ k : Nat, k ≤ 4 ∧ iv = .int .i64 k ∧ nv = .int .i64 (numT (bI s) k)) (fun _ iv => 4 - (intOf iv).toNat)
    case atStart => exact ⟨0, by omega, rfl, rfl⟩
    case round =>
      obtain ⟨k, hk4, rfl, rfl⟩ := hrel
      by_cases hlt : k < 4
      · have ii : (k : Int) < 4 := by omega
        have gs : ∀ h : k < s.size, ((s[k]'h).toNat : Int) = ix (bI s) k := fun h => (ix_bI s k h).symm
        have hnb := numT_bd (bI s) (U8s_bI s) k
        have hp : (256 : Int) ^ k ≤ 16777216 := by rcases (by omega : k = 0 ∨ k = 1 ∨ k = 2 ∨ k = 3) with h | h | h | h <;> (rw [h]; decide)
        have hx0 : 0 ≤ numT (bI s) k := hnb.1
        have hx1 : numT (bI s) k < 16777216 := by omega
        have hu0 := (U8s_bI s k).1
        have hu1 := (U8s_bI s k).2
        have iik : (k : Int) < s.size := by omega
        have HS := Lib.hid (show numT (bI s) (k + 1) = 256 * numT (bI s) k + ix (bI s) k by rw [numT]; omega)
        clear hnb hp
        go_wp2_with fail
        go_round
        case rel => exact ⟨k + 1, by omega, by go_num, by rw [HS.out]⟩
        case measure => simp [intOf]; omega
      · obtain rfl : k = 4 := by omega
        rw [HM.out]
        have j1 : ¬ (m : Int) < 12 := by have h := hf; rw [show aheadN false = 4 from rfl] at h; omega
        have j2 : ((((m : Int) + 4) % 8 != 0) = true) := by rw [bne_iff_ne]; have h := hg; rw [show aheadN false = 4 from rfl] at h; omega
        clear hf hg
        go_wp2_with fail
        try simp only [Exit.inBlock, Exit.then]
        refine bodyPost_ret (results_tmp4 rfl _ _ _) rfl ?_
        exact ⟨rfl, Below.refl _ _⟩
  · have hke : keyS true ks = strOfNums ks := rfl
    rw [hke]
    obtain ⟨key, hkey⟩ : ∃ key, key = strOfNums ks := ⟨_, rfl⟩
    rw [← hkey]
    have HKS := Lib.hid (show key.size = 32 ∧ bI key = ks by rw [hkey, str_size, HK.out]; exact ⟨rfl, bI_str (mem_of_U8s BK.out)⟩)
    have hkn := str_ne (p := key) (by rw [HKS.out.1]; decide)
    have hkn3 : key.toList.isEmpty = false := by simpa using hkn
    have hkn4 : (!key.toList.isEmpty) = true := by simpa using hkn
    clear hke hkey
    go_enter Tryz.func17, Tryz.ntmps17
    go_wp2_with fail
    go_loop [10, 11] (fun nv iv => ∃ k : Nat, k ≤ 4 ∧ iv = .int .i64 k ∧ nv = .int .i64 (numT (bI s) k)) (fun _ iv => 4 - (intOf iv).toNat)
    case atStart => exact ⟨0, by omega, rfl, rfl⟩
    case round =>
      obtain ⟨k, hk4, rfl, rfl⟩ := hrel
      by_cases hlt : k < 4
      · have ii : (k : Int) < 4 := by omega
        have gs : ∀ h : k < s.size, ((s[k]'h).toNat : Int) = ix (bI s) k := fun h => (ix_bI s k h).symm
        have hnb := numT_bd (bI s) (U8s_bI s) k
        have hp : (256 : Int) ^ k ≤ 16777216 := by rcases (by omega : k = 0 ∨ k = 1 ∨ k = 2 ∨ k = 3) with h | h | h | h <;> (rw [h]; decide)
        have hx0 : 0 ≤ numT (bI s) k := hnb.1
        have hx1 : numT (bI s) k < 16777216 := by omega
        have hu0 := (U8s_bI s k).1
        have hu1 := (U8s_bI s k).2
        have iik : (k : Int) < s.size := by omega
        have HS := Lib.hid (show numT (bI s) (k + 1) = 256 * numT (bI s) k + ix (bI s) k by rw [numT]; omega)
        clear hnb hp
        go_wp2_with fail
        go_round
        case rel => exact ⟨k + 1, by omega, by go_num, by rw [HS.out]⟩
        case measure => simp [intOf]; omega
      · obtain rfl : k = 4 := by omega
        rw [HM.out]
        have j1 : ¬ (m : Int) < 8 := by have h := hf; rw [show aheadN true = 0 from rfl] at h; omega
        have j2 : (((m : Int) % 8 != 0) = true) := by rw [bne_iff_ne]; have h := hg; rw [show aheadN true = 0 from rfl] at h; omega
        clear hf hg
        go_wp2_with fail
        try simp only [Exit.inBlock, Exit.then]
        refine bodyPost_ret (results_tmp4 rfl _ _ _) rfl ?_
        exact ⟨rfl, Below.refl _ _⟩
set_option maxRecDepth 100000 in
set_option maxHeartbeats 4000000 in
theorem rread_wait (b : Bool) (ks : List Int) (n : Nat) (s : ByteArray) (hk : ks.length = 32) (bk : U8s ks) (hn : n ≤ 1000000000) (hs : s.size ≤ 1000000) (h4 : 4 ≤ s.size) (hb : lenR (bI s) ≤ 33024) (hff : formB b (lenR (bI s)) = false) (hw : s.size < allR b (lenR (bI s))) (w : World) :
    Calls Tryz.prog 17 #[.string s, .string (keyS b ks), .int .i64 n] w fun e w' => e = .returned (.tuple #[.string ⟨#[]⟩, .string s, .bool false, .int .i64 0]) ∧ Below w.heap.size w w' := by
  have i4 : ¬ (s.size : Int) < 4 := by omega
  have i4b : (4 : Int) ≤ s.size := by omega
  obtain ⟨hm, hmb⟩ := lenR_int s
  obtain ⟨hf, hg⟩ := form_no hff
  clear hff
  generalize lenR (bI s) = m at hm hmb hb hf hg hw
  have i5 : ¬ (33024 : Int) < m := by omega
  obtain ⟨L, hL⟩ : ∃ L, L = allR b m := ⟨_, rfl⟩
  have hL2 : (L : Int) = 4 + m + (tagN b : Nat) := by rw [hL]; unfold allR; omega
  have HL := Lib.hid hL2; have HLL := Lib.hid hL
  have i10 : (s.size : Int) < L := by omega
  clear hL hL2 hw
  have HM := Lib.hid hm
  have HK := Lib.hid hk; have BK := Lib.hid bk; have HN := Lib.hid hn
  clear hm hk bk hn
  cases b
  · have hke : keyS false ks = ⟨#[]⟩ := rfl
    rw [hke]
    clear hke
    go_enter Tryz.func17, Tryz.ntmps17
    go_wp2_with fail
    go_loop [10, 11] (fun nv iv => ∃ k : Nat, k ≤ 4 ∧ iv = .int .i64 k ∧ nv = .int .i64 (numT (bI s) k)) (fun _ iv => 4 - (intOf iv).toNat)
    case atStart => exact ⟨0, by omega, rfl, rfl⟩
    case round =>
      obtain ⟨k, hk4, rfl, rfl⟩ := hrel
      by_cases hlt : k < 4
      · have ii : (k : Int) < 4 := by omega
        have gs : ∀ h : k < s.size, ((s[k]'h).toNat : Int) = ix (bI s) k := fun h => (ix_bI s k h).symm
        have hnb := numT_bd (bI s) (U8s_bI s) k
        have hp : (256 : Int) ^ k ≤ 16777216 := by rcases (by omega : k = 0 ∨ k = 1 ∨ k = 2 ∨ k = 3) with h | h | h | h <;> (rw [h]; decide)
        have hx0 : 0 ≤ numT (bI s) k := hnb.1
        have hx1 : numT (bI s) k < 16777216 := by omega
        have hu0 := (U8s_bI s k).1
        have hu1 := (U8s_bI s k).2
        have iik : (k : Int) < s.size := by omega
        have HS := Lib.hid (show numT (bI s) (k + 1) = 256 * numT (bI s) k + ix (bI s) k by rw [numT]; omega)
        clear hnb hp
        go_wp2_with fail
        go_round
        case rel => exact ⟨k + 1, by omega, by go_num, by rw [HS.out]⟩
        case measure => simp [intOf]; omega
      · obtain rfl : k = 4 := by omega
        rw [HM.out]
        have j1 : ¬ (m : Int) < 12 := by have h := hf; rw [show aheadN false = 4 from rfl] at h; omega
        have j2 : ((((m : Int) + 4) % 8 != 0) = false) := by rw [bne_eq_false_iff_eq]; have h := hg; rw [show aheadN false = 4 from rfl] at h; omega
        have j3 : ((((m : Int) + 4) % 8 == 0) = true) := by rw [beq_iff_eq]; have h := hg; rw [show aheadN false = 4 from rfl] at h; omega
        clear hf hg
        have hL3 : (m : Int) + 4 = L := by have := HL.out; rw [show tagN false = 0 from rfl] at this; omega
        have j2L : (((L : Int) % 8 != 0) = false) := by rw [← hL3]; exact j2
        have j3L : (((L : Int) % 8 == 0) = true) := by rw [← hL3]; exact j3
        go_wp2_with fail
        try simp only [Exit.inBlock, Exit.then]
        refine bodyPost_ret (results_tmp4 rfl _ _ _) rfl ?_
        exact ⟨rfl, Below.refl _ _⟩
  · have hke : keyS true ks = strOfNums ks := rfl
    rw [hke]
    obtain ⟨key, hkey⟩ : ∃ key, key = strOfNums ks := ⟨_, rfl⟩
    rw [← hkey]
    have HKS := Lib.hid (show key.size = 32 ∧ bI key = ks by rw [hkey, str_size, HK.out]; exact ⟨rfl, bI_str (mem_of_U8s BK.out)⟩)
    have hkn := str_ne (p := key) (by rw [HKS.out.1]; decide)
    have hkn3 : key.toList.isEmpty = false := by simpa using hkn
    have hkn4 : (!key.toList.isEmpty) = true := by simpa using hkn
    clear hke hkey
    go_enter Tryz.func17, Tryz.ntmps17
    go_wp2_with fail
    go_loop [10, 11] (fun nv iv => ∃ k : Nat, k ≤ 4 ∧ iv = .int .i64 k ∧ nv = .int .i64 (numT (bI s) k)) (fun _ iv => 4 - (intOf iv).toNat)
    case atStart => exact ⟨0, by omega, rfl, rfl⟩
    case round =>
      obtain ⟨k, hk4, rfl, rfl⟩ := hrel
      by_cases hlt : k < 4
      · have ii : (k : Int) < 4 := by omega
        have gs : ∀ h : k < s.size, ((s[k]'h).toNat : Int) = ix (bI s) k := fun h => (ix_bI s k h).symm
        have hnb := numT_bd (bI s) (U8s_bI s) k
        have hp : (256 : Int) ^ k ≤ 16777216 := by rcases (by omega : k = 0 ∨ k = 1 ∨ k = 2 ∨ k = 3) with h | h | h | h <;> (rw [h]; decide)
        have hx0 : 0 ≤ numT (bI s) k := hnb.1
        have hx1 : numT (bI s) k < 16777216 := by omega
        have hu0 := (U8s_bI s k).1
        have hu1 := (U8s_bI s k).2
        have iik : (k : Int) < s.size := by omega
        have HS := Lib.hid (show numT (bI s) (k + 1) = 256 * numT (bI s) k + ix (bI s) k by rw [numT]; omega)
        clear hnb hp
        go_wp2_with fail
        go_round
        case rel => exact ⟨k + 1, by omega, by go_num, by rw [HS.out]⟩
        case measure => simp [intOf]; omega
      · obtain rfl : k = 4 := by omega
        rw [HM.out]
        have j1 : ¬ (m : Int) < 8 := by have h := hf; rw [show aheadN true = 0 from rfl] at h; omega
        have j2 : (((m : Int) % 8 != 0) = false) := by rw [bne_eq_false_iff_eq]; have h := hg; rw [show aheadN true = 0 from rfl] at h; omega
        have j3 : (((m : Int) % 8 == 0) = true) := by rw [beq_iff_eq]; have h := hg; rw [show aheadN true = 0 from rfl] at h; omega
        clear hf hg
        have hL3 : (m : Int) + 20 = L := by have := HL.out; rw [show tagN true = 16 from rfl] at this; omega
        go_wp2_with fail
        try simp only [Exit.inBlock, Exit.then]
        refine bodyPost_ret (results_tmp4 rfl _ _ _) rfl ?_
        exact ⟨rfl, Below.refl _ _⟩
set_option maxRecDepth 100000 in
set_option maxHeartbeats 4000000 in
theorem rread_mac (b : Bool) (ks : List Int) (n : Nat) (s : ByteArray) (hk : ks.length = 32) (bk : U8s ks) (hn : n ≤ 1000000000) (hs : s.size ≤ 1000000) (h4 : 4 ≤ s.size) (hb : lenR (bI s) ≤ 33024) (hff : formB b (lenR (bI s)) = false) (hw : ¬ s.size < allR b (lenR (bI s))) (hc : bodyC b ks n (lenR (bI s)) (bI s) ≠ 0) (w : World) :
    Calls Tryz.prog 17 #[.string s, .string (keyS b ks), .int .i64 n] w fun e w' => e = .returned (.tuple #[.string ⟨#[]⟩, .string ⟨#[]⟩, .bool false, .int .i64 (bodyC b ks n (lenR (bI s)) (bI s))]) ∧ Below w.heap.size w w' := by
  have i4 : ¬ (s.size : Int) < 4 := by omega
  have i4b : (4 : Int) ≤ s.size := by omega
  obtain ⟨hm, hmb⟩ := lenR_int s
  obtain ⟨T, hTT⟩ : ∃ T, T = strOfNums (bodyR b ks n (lenR (bI s)) (bI s)) := ⟨_, rfl⟩
  obtain ⟨c, hCC⟩ : ∃ c, c = bodyC b ks n (lenR (bI s)) (bI s) := ⟨_, rfl⟩
  have HTT := Lib.hid hTT; have HCC := Lib.hid hCC
  have hc2 : c = 2 ∨ c = 5 := by rcases bodyC_or b ks n (lenR (bI s)) (bI s) with h | h | h <;> omega
  have HC0 := Lib.hid hc
  rw [← hCC]
  clear hc
  have hc3 : (c != 0) = true := by rw [bne_iff_ne]; omega
  have hc4 : ((c == 0) = false) := by rw [beq_eq_false_iff_ne]; omega
  have hc5 : ¬ c = 0 := by omega
  clear hTT hCC hc2
  obtain ⟨hf, hg⟩ := form_no hff
  clear hff
  generalize lenR (bI s) = m at hm hmb hb hf hg hw HTT HCC HC0
  have i5 : ¬ (33024 : Int) < m := by omega
  obtain ⟨L, hL⟩ : ∃ L, L = allR b m := ⟨_, rfl⟩
  have hL2 : (L : Int) = 4 + m + (tagN b : Nat) := by rw [hL]; unfold allR; omega
  have HL := Lib.hid hL2; have HLL := Lib.hid hL
  have i10 : ¬ (s.size : Int) < L := by omega
  have i11 : (L : Int) ≤ s.size := by omega
  have i12 : (4 : Int) ≤ L := by rw [hL]; unfold allR; omega
  clear hL hL2 hw
  have HM := Lib.hid hm
  have HK := Lib.hid hk; have BK := Lib.hid bk; have HN := Lib.hid hn
  clear hm hk bk hn
  cases b
  · have hke : keyS false ks = ⟨#[]⟩ := rfl
    rw [hke]
    clear hke
    go_enter Tryz.func17, Tryz.ntmps17
    go_wp2_with fail
    go_loop [10, 11] (fun nv iv => ∃ k : Nat, k ≤ 4 ∧ iv = .int .i64 k ∧ nv = .int .i64 (numT (bI s) k)) (fun _ iv => 4 - (intOf iv).toNat)
    case atStart => exact ⟨0, by omega, rfl, rfl⟩
    case round =>
      obtain ⟨k, hk4, rfl, rfl⟩ := hrel
      by_cases hlt : k < 4
      · have ii : (k : Int) < 4 := by omega
        have gs : ∀ h : k < s.size, ((s[k]'h).toNat : Int) = ix (bI s) k := fun h => (ix_bI s k h).symm
        have hnb := numT_bd (bI s) (U8s_bI s) k
        have hp : (256 : Int) ^ k ≤ 16777216 := by rcases (by omega : k = 0 ∨ k = 1 ∨ k = 2 ∨ k = 3) with h | h | h | h <;> (rw [h]; decide)
        have hx0 : 0 ≤ numT (bI s) k := hnb.1
        have hx1 : numT (bI s) k < 16777216 := by omega
        have hu0 := (U8s_bI s k).1
        have hu1 := (U8s_bI s k).2
        have iik : (k : Int) < s.size := by omega
        have HS := Lib.hid (show numT (bI s) (k + 1) = 256 * numT (bI s) k + ix (bI s) k by rw [numT]; omega)
        clear hnb hp
        go_wp2_with fail
        go_round
        case rel => exact ⟨k + 1, by omega, by go_num, by rw [HS.out]⟩
        case measure => simp [intOf]; omega
      · obtain rfl : k = 4 := by omega
        rw [HM.out]
        have j1 : ¬ (m : Int) < 12 := by have h := hf; rw [show aheadN false = 4 from rfl] at h; omega
        have j2 : ((((m : Int) + 4) % 8 != 0) = false) := by rw [bne_eq_false_iff_eq]; have h := hg; rw [show aheadN false = 4 from rfl] at h; omega
        have j3 : ((((m : Int) + 4) % 8 == 0) = true) := by rw [beq_iff_eq]; have h := hg; rw [show aheadN false = 4 from rfl] at h; omega
        clear hf hg
        exact absurd rfl HC0.out
  · have hke : keyS true ks = strOfNums ks := rfl
    rw [hke]
    obtain ⟨key, hkey⟩ : ∃ key, key = strOfNums ks := ⟨_, rfl⟩
    rw [← hkey]
    have HKS := Lib.hid (show key.size = 32 ∧ bI key = ks by rw [hkey, str_size, HK.out]; exact ⟨rfl, bI_str (mem_of_U8s BK.out)⟩)
    have hkn := str_ne (p := key) (by rw [HKS.out.1]; decide)
    have hkn3 : key.toList.isEmpty = false := by simpa using hkn
    have hkn4 : (!key.toList.isEmpty) = true := by simpa using hkn
    clear hke hkey
    go_enter Tryz.func17, Tryz.ntmps17
    go_wp2_with fail
    go_loop [10, 11] (fun nv iv => ∃ k : Nat, k ≤ 4 ∧ iv = .int .i64 k ∧ nv = .int .i64 (numT (bI s) k)) (fun _ iv => 4 - (intOf iv).toNat)
    case atStart => exact ⟨0, by omega, rfl, rfl⟩
    case round =>
      obtain ⟨k, hk4, rfl, rfl⟩ := hrel
      by_cases hlt : k < 4
      · have ii : (k : Int) < 4 := by omega
        have gs : ∀ h : k < s.size, ((s[k]'h).toNat : Int) = ix (bI s) k := fun h => (ix_bI s k h).symm
        have hnb := numT_bd (bI s) (U8s_bI s) k
        have hp : (256 : Int) ^ k ≤ 16777216 := by rcases (by omega : k = 0 ∨ k = 1 ∨ k = 2 ∨ k = 3) with h | h | h | h <;> (rw [h]; decide)
        have hx0 : 0 ≤ numT (bI s) k := hnb.1
        have hx1 : numT (bI s) k < 16777216 := by omega
        have hu0 := (U8s_bI s k).1
        have hu1 := (U8s_bI s k).2
        have iik : (k : Int) < s.size := by omega
        have HS := Lib.hid (show numT (bI s) (k + 1) = 256 * numT (bI s) k + ix (bI s) k by rw [numT]; omega)
        clear hnb hp
        go_wp2_with fail
        go_round
        case rel => exact ⟨k + 1, by omega, by go_num, by rw [HS.out]⟩
        case measure => simp [intOf]; omega
      · obtain rfl : k = 4 := by omega
        rw [HM.out]
        have j1 : ¬ (m : Int) < 8 := by have h := hf; rw [show aheadN true = 0 from rfl] at h; omega
        have j2 : (((m : Int) % 8 != 0) = false) := by rw [bne_eq_false_iff_eq]; have h := hg; rw [show aheadN true = 0 from rfl] at h; omega
        have j3 : (((m : Int) % 8 == 0) = true) := by rw [beq_iff_eq]; have h := hg; rw [show aheadN true = 0 from rfl] at h; omega
        clear hf hg
        have hL3 : (m : Int) + 20 = L := by have := HL.out; rw [show tagN true = 16 from rfl] at this; omega
        obtain ⟨N, hN⟩ : ∃ N, N = strOfNums (nonceN n) := ⟨_, rfl⟩
        have HNE := Lib.hid hN.symm
        have HNN := Lib.hid (show N.size = 12 ∧ bI N = nonceN n by rw [hN, str_size]; exact ⟨nonceN_length n, bI_str (nonceN_mem n)⟩)
        have HOP := Lib.hid (show strOfNums (openS (bI key) (bI N) (bI (s.extract 4 L)) (bI (s.extract 0 4))) = T ∧ openC (bI key) (bI N) (bI (s.extract 4 L)) (bI (s.extract 0 4)) = c by
          rw [HKS.out.2, HNN.out.2, HTT.out, HCC.out, HLL.out]
          exact open_raw ks n m s)
        clear hN
        go_wp2_with fail
        refine wp_region_class (fun W => Below w.heap.size w W) (by kernel_rfl) (by kernel_rfl) (below_drawnN (Below.refl _ _) 1) ?_
        refine wpQuiet_step (fun K hK => ?_)
        refine quiet_want (by kernel_rfl) ⟨(.string key), fun W hW => ?_, ?_⟩
        · refine quietAt_val ?_
          go_simp
        go_simp
        refine hK _ ?_
        clear hK K
        refine wpQuiet_step (fun K hK => ?_)
        refine quiet_want (by kernel_rfl) ⟨(.int .i64 n), fun W hW => ?_, ?_⟩
        · refine quietAt_val ?_
          go_simp
        go_simp
        refine hK _ ?_
        clear hK K
        refine wpQuiet_step (fun K hK => ?_)
        refine quiet_want (by kernel_rfl) ⟨(.string N), fun W hW => ?_, ?_⟩
        · refine quietAt_call (f := 32) (args := (#[.int .i64 n])) (by go_simp) ?_
          refine (rnonce_calls n HN.out W).mono ?_
          rw [HNE.out]
          rintro e W' ⟨rfl, hb⟩
          exact ⟨rfl, hW.trans (hb.mono hW.size)⟩
        go_simp
        refine hK _ ?_
        clear hK K
        refine wpQuiet_step (fun K hK => ?_)
        refine quiet_want (by kernel_rfl) ⟨(.string (s.extract 4 L)), fun W hW => ?_, ?_⟩
        · refine quietAt_val ?_
          go_simp
        go_simp
        refine hK _ ?_
        clear hK K
        refine wpQuiet_step (fun K hK => ?_)
        refine quiet_want (by kernel_rfl) ⟨(.string s), fun W hW => ?_, ?_⟩
        · refine quietAt_val ?_
          go_simp
        go_simp
        refine hK _ ?_
        clear hK K
        refine wpQuiet_step (fun K hK => ?_)
        refine quiet_want (by kernel_rfl) ⟨(.string (s.extract 0 4)), fun W hW => ?_, ?_⟩
        · refine quietAt_val ?_
          go_simp
        go_simp
        refine hK _ ?_
        clear hK K
        refine wpQuiet_step (fun K hK => ?_)
        refine quiet_want (by kernel_rfl) ⟨(.tuple #[.string T, .int .i64 c]), fun W hW => ?_, ?_⟩
        · refine quietAt_call (f := 37) (args := (#[.string key, .string N, .string (s.extract 4 L), .string (s.extract 0 4)])) (by go_simp) ?_
          refine (ropen_calls key N (s.extract 4 L) (s.extract 0 4) HKS.out.1 HNN.out.1 (by simp; omega) (by simp; omega) W).mono ?_
          rw [HOP.out.1, HOP.out.2]
          rintro e W' ⟨rfl, hb⟩
          exact ⟨rfl, hW.trans (hb.mono hW.size)⟩
        go_simp
        refine hK _ ?_
        clear hK K
        refine wpQuiet_step (fun K hK => ?_)
        refine quiet_want (by kernel_rfl) ⟨(.tuple #[.string T, .int .i64 c]), fun W hW => ?_, ?_⟩
        · refine quietAt_val ?_
          go_simp
        go_simp
        refine hK _ ?_
        clear hK K
        refine wpQuiet_step (fun K hK => ?_)
        refine quiet_want (by kernel_rfl) ⟨(.string T), fun W hW => ?_, ?_⟩
        · refine quietAt_val ?_
          go_simp
        go_simp
        refine hK _ ?_
        clear hK K
        refine wpQuiet_step (fun K hK => ?_)
        refine quiet_want (by kernel_rfl) ⟨(.int .i64 c), fun W hW => ?_, ?_⟩
        · refine quietAt_val ?_
          go_simp
        go_simp
        refine hK _ ?_
        clear hK K
        refine wpQuiet_step (fun K hK => ?_)
        refine quiet_want (by kernel_rfl) ⟨(.string T), fun W hW => ?_, ?_⟩
        · refine quietAt_val ?_
          go_simp
        go_simp
        refine hK _ ?_
        clear hK K
        refine wpQuiet_step (fun K hK => ?_)
        refine quiet_want (by kernel_rfl) ⟨(.int .i64 c), fun W hW => ?_, ?_⟩
        · refine quietAt_val ?_
          go_simp
        go_simp
        refine hK _ ?_
        clear hK K
        refine wpQuiet_nil ?_
        intro W3 hB3
        have HB3 := Lib.hid hB3
        clear hB3
        go_wp2_with fail
        try simp only [Exit.inBlock, Exit.then]
        refine bodyPost_ret (results_tmp4 rfl _ _ _) rfl ?_
        exact ⟨rfl, HB3.out⟩
set_option maxRecDepth 100000 in
set_option maxHeartbeats 4000000 in
theorem rread_pad1 (b : Bool) (ks : List Int) (n : Nat) (s : ByteArray) (hk : ks.length = 32) (bk : U8s ks) (hn : n ≤ 1000000000) (hs : s.size ≤ 1000000) (h4 : 4 ≤ s.size) (hb : lenR (bI s) ≤ 33024) (hff : formB b (lenR (bI s)) = false) (hw : ¬ s.size < allR b (lenR (bI s))) (hc : bodyC b ks n (lenR (bI s)) (bI s) = 0) (hp : ix (bodyR b ks n (lenR (bI s)) (bI s)) 0 < 4) (w : World) :
    Calls Tryz.prog 17 #[.string s, .string (keyS b ks), .int .i64 n] w fun e w' => e = .returned (.tuple #[.string ⟨#[]⟩, .string ⟨#[]⟩, .bool false, .int .i64 3]) ∧ Below w.heap.size w w' := by
  have i4 : ¬ (s.size : Int) < 4 := by omega
  have i4b : (4 : Int) ≤ s.size := by omega
  obtain ⟨hm, hmb⟩ := lenR_int s
  have hRu := bodyR_u8 b ks n (lenR (bI s)) s
  have hRl := bodyR_len b ks n (lenR (bI s)) s hc hw
  obtain ⟨T, hTT⟩ : ∃ T, T = strOfNums (bodyR b ks n (lenR (bI s)) (bI s)) := ⟨_, rfl⟩
  have HTT := Lib.hid hTT; have HCC := Lib.hid hc.symm
  have hTl : T.size = lenR (bI s) := by rw [hTT, str_size, hRl]
  obtain ⟨R, hR⟩ : ∃ R, R = bodyR b ks n (lenR (bI s)) (bI s) := ⟨_, rfl⟩
  rw [← hR] at hRu hRl hTT hp
  obtain ⟨q, hq⟩ : ∃ q : Nat, (q : Int) = ix R 0 := ⟨(ix R 0).toNat, by have := U8s_of_mem hRu 0; omega⟩
  have hq5 : q ≤ 255 := by have := U8s_of_mem hRu 0; omega
  have hidx : ∀ h : 0 < T.size, ((T[0]'h).toNat : Int) = (q : Int) := fun h => by rw [← ix_bI T 0 h, hTT, bI_str hRu, hq]
  have hm8 : 8 ≤ lenR (bI s) := by
    have h := form_no hff
    have h1 := h.1; have h2 := h.2
    rcases aheadN_or b with ⟨e, _⟩ | ⟨e, _⟩ <;> rw [e] at h1 h2 <;> omega
  have hT0 : (0 : Int) < T.size := by omega
  have htb : (T.size : Int) ≤ 33024 := by omega
  have k1 : (q : Int) < 4 := by omega
  clear hp
  have HIX := Lib.hid hidx; have HTL := Lib.hid hTl; have HRU := Lib.hid hRu; have HTR := Lib.hid hTT; have HRL := Lib.hid hRl; have HQ := Lib.hid hq; have HRR := Lib.hid hR
  clear hTT hc hidx hTl hRu hRl hq hm8 hR
  obtain ⟨hf, hg⟩ := form_no hff
  clear hff
  generalize lenR (bI s) = m at hm hmb hb hf hg hw HTT HCC HTL HRL HRR
  have i5 : ¬ (33024 : Int) < m := by omega
  obtain ⟨L, hL⟩ : ∃ L, L = allR b m := ⟨_, rfl⟩
  have hL2 : (L : Int) = 4 + m + (tagN b : Nat) := by rw [hL]; unfold allR; omega
  have HL := Lib.hid hL2; have HLL := Lib.hid hL
  have i10 : ¬ (s.size : Int) < L := by omega
  have i11 : (L : Int) ≤ s.size := by omega
  have i12 : (4 : Int) ≤ L := by rw [hL]; unfold allR; omega
  clear hL hL2 hw
  have HM := Lib.hid hm
  have HK := Lib.hid hk; have BK := Lib.hid bk; have HN := Lib.hid hn
  clear hm hk bk hn
  cases b
  · have hke : keyS false ks = ⟨#[]⟩ := rfl
    rw [hke]
    clear hke
    go_enter Tryz.func17, Tryz.ntmps17
    go_wp2_with fail
    go_loop [10, 11] (fun nv iv => ∃ k : Nat, k ≤ 4 ∧ iv = .int .i64 k ∧ nv = .int .i64 (numT (bI s) k)) (fun _ iv => 4 - (intOf iv).toNat)
    case atStart => exact ⟨0, by omega, rfl, rfl⟩
    case round =>
      obtain ⟨k, hk4, rfl, rfl⟩ := hrel
      by_cases hlt : k < 4
      · have ii : (k : Int) < 4 := by omega
        have gs : ∀ h : k < s.size, ((s[k]'h).toNat : Int) = ix (bI s) k := fun h => (ix_bI s k h).symm
        have hnb := numT_bd (bI s) (U8s_bI s) k
        have hp : (256 : Int) ^ k ≤ 16777216 := by rcases (by omega : k = 0 ∨ k = 1 ∨ k = 2 ∨ k = 3) with h | h | h | h <;> (rw [h]; decide)
        have hx0 : 0 ≤ numT (bI s) k := hnb.1
        have hx1 : numT (bI s) k < 16777216 := by omega
        have hu0 := (U8s_bI s k).1
        have hu1 := (U8s_bI s k).2
        have iik : (k : Int) < s.size := by omega
        have HS := Lib.hid (show numT (bI s) (k + 1) = 256 * numT (bI s) k + ix (bI s) k by rw [numT]; omega)
        clear hnb hp
        go_wp2_with fail
        go_round
        case rel => exact ⟨k + 1, by omega, by go_num, by rw [HS.out]⟩
        case measure => simp [intOf]; omega
      · obtain rfl : k = 4 := by omega
        rw [HM.out]
        have j1 : ¬ (m : Int) < 12 := by have h := hf; rw [show aheadN false = 4 from rfl] at h; omega
        have j2 : ((((m : Int) + 4) % 8 != 0) = false) := by rw [bne_eq_false_iff_eq]; have h := hg; rw [show aheadN false = 4 from rfl] at h; omega
        have j3 : ((((m : Int) + 4) % 8 == 0) = true) := by rw [beq_iff_eq]; have h := hg; rw [show aheadN false = 4 from rfl] at h; omega
        clear hf hg
        have hL3 : (m : Int) + 4 = L := by have := HL.out; rw [show tagN false = 0 from rfl] at this; omega
        have j2L : (((L : Int) % 8 != 0) = false) := by rw [← hL3]; exact j2
        have j3L : (((L : Int) % 8 == 0) = true) := by rw [← hL3]; exact j3
        have HT := Lib.hid (show s.extract 4 L = T by rw [HTT.out]; exact str_rawR false m s ks n rfl HLL.out)
        have hT := HT.out
        have hidx := HIX.out
        go_wp2_with fail
        try simp only [Exit.inBlock, Exit.then]
        refine bodyPost_ret (results_tmp4 rfl _ _ _) rfl ?_
        exact ⟨rfl, (Below.refl _ _)⟩
  · have hke : keyS true ks = strOfNums ks := rfl
    rw [hke]
    obtain ⟨key, hkey⟩ : ∃ key, key = strOfNums ks := ⟨_, rfl⟩
    rw [← hkey]
    have HKS := Lib.hid (show key.size = 32 ∧ bI key = ks by rw [hkey, str_size, HK.out]; exact ⟨rfl, bI_str (mem_of_U8s BK.out)⟩)
    have hkn := str_ne (p := key) (by rw [HKS.out.1]; decide)
    have hkn3 : key.toList.isEmpty = false := by simpa using hkn
    have hkn4 : (!key.toList.isEmpty) = true := by simpa using hkn
    clear hke hkey
    go_enter Tryz.func17, Tryz.ntmps17
    go_wp2_with fail
    go_loop [10, 11] (fun nv iv => ∃ k : Nat, k ≤ 4 ∧ iv = .int .i64 k ∧ nv = .int .i64 (numT (bI s) k)) (fun _ iv => 4 - (intOf iv).toNat)
    case atStart => exact ⟨0, by omega, rfl, rfl⟩
    case round =>
      obtain ⟨k, hk4, rfl, rfl⟩ := hrel
      by_cases hlt : k < 4
      · have ii : (k : Int) < 4 := by omega
        have gs : ∀ h : k < s.size, ((s[k]'h).toNat : Int) = ix (bI s) k := fun h => (ix_bI s k h).symm
        have hnb := numT_bd (bI s) (U8s_bI s) k
        have hp : (256 : Int) ^ k ≤ 16777216 := by rcases (by omega : k = 0 ∨ k = 1 ∨ k = 2 ∨ k = 3) with h | h | h | h <;> (rw [h]; decide)
        have hx0 : 0 ≤ numT (bI s) k := hnb.1
        have hx1 : numT (bI s) k < 16777216 := by omega
        have hu0 := (U8s_bI s k).1
        have hu1 := (U8s_bI s k).2
        have iik : (k : Int) < s.size := by omega
        have HS := Lib.hid (show numT (bI s) (k + 1) = 256 * numT (bI s) k + ix (bI s) k by rw [numT]; omega)
        clear hnb hp
        go_wp2_with fail
        go_round
        case rel => exact ⟨k + 1, by omega, by go_num, by rw [HS.out]⟩
        case measure => simp [intOf]; omega
      · obtain rfl : k = 4 := by omega
        rw [HM.out]
        have j1 : ¬ (m : Int) < 8 := by have h := hf; rw [show aheadN true = 0 from rfl] at h; omega
        have j2 : (((m : Int) % 8 != 0) = false) := by rw [bne_eq_false_iff_eq]; have h := hg; rw [show aheadN true = 0 from rfl] at h; omega
        have j3 : (((m : Int) % 8 == 0) = true) := by rw [beq_iff_eq]; have h := hg; rw [show aheadN true = 0 from rfl] at h; omega
        clear hf hg
        have hL3 : (m : Int) + 20 = L := by have := HL.out; rw [show tagN true = 16 from rfl] at this; omega
        obtain ⟨N, hN⟩ : ∃ N, N = strOfNums (nonceN n) := ⟨_, rfl⟩
        have HNE := Lib.hid hN.symm
        have HNN := Lib.hid (show N.size = 12 ∧ bI N = nonceN n by rw [hN, str_size]; exact ⟨nonceN_length n, bI_str (nonceN_mem n)⟩)
        have HOP := Lib.hid (show strOfNums (openS (bI key) (bI N) (bI (s.extract 4 L)) (bI (s.extract 0 4))) = T ∧ openC (bI key) (bI N) (bI (s.extract 4 L)) (bI (s.extract 0 4)) = (0 : Int) by
          rw [HKS.out.2, HNN.out.2, HTT.out, HCC.out, HLL.out]
          exact open_raw ks n m s)
        clear hN
        go_wp2_with fail
        refine wp_region_class (fun W => Below w.heap.size w W) (by kernel_rfl) (by kernel_rfl) (below_drawnN (Below.refl _ _) 1) ?_
        refine wpQuiet_step (fun K hK => ?_)
        refine quiet_want (by kernel_rfl) ⟨(.string key), fun W hW => ?_, ?_⟩
        · refine quietAt_val ?_
          go_simp
        go_simp
        refine hK _ ?_
        clear hK K
        refine wpQuiet_step (fun K hK => ?_)
        refine quiet_want (by kernel_rfl) ⟨(.int .i64 n), fun W hW => ?_, ?_⟩
        · refine quietAt_val ?_
          go_simp
        go_simp
        refine hK _ ?_
        clear hK K
        refine wpQuiet_step (fun K hK => ?_)
        refine quiet_want (by kernel_rfl) ⟨(.string N), fun W hW => ?_, ?_⟩
        · refine quietAt_call (f := 32) (args := (#[.int .i64 n])) (by go_simp) ?_
          refine (rnonce_calls n HN.out W).mono ?_
          rw [HNE.out]
          rintro e W' ⟨rfl, hb⟩
          exact ⟨rfl, hW.trans (hb.mono hW.size)⟩
        go_simp
        refine hK _ ?_
        clear hK K
        refine wpQuiet_step (fun K hK => ?_)
        refine quiet_want (by kernel_rfl) ⟨(.string (s.extract 4 L)), fun W hW => ?_, ?_⟩
        · refine quietAt_val ?_
          go_simp
        go_simp
        refine hK _ ?_
        clear hK K
        refine wpQuiet_step (fun K hK => ?_)
        refine quiet_want (by kernel_rfl) ⟨(.string s), fun W hW => ?_, ?_⟩
        · refine quietAt_val ?_
          go_simp
        go_simp
        refine hK _ ?_
        clear hK K
        refine wpQuiet_step (fun K hK => ?_)
        refine quiet_want (by kernel_rfl) ⟨(.string (s.extract 0 4)), fun W hW => ?_, ?_⟩
        · refine quietAt_val ?_
          go_simp
        go_simp
        refine hK _ ?_
        clear hK K
        refine wpQuiet_step (fun K hK => ?_)
        refine quiet_want (by kernel_rfl) ⟨(.tuple #[.string T, .int .i64 0]), fun W hW => ?_, ?_⟩
        · refine quietAt_call (f := 37) (args := (#[.string key, .string N, .string (s.extract 4 L), .string (s.extract 0 4)])) (by go_simp) ?_
          refine (ropen_calls key N (s.extract 4 L) (s.extract 0 4) HKS.out.1 HNN.out.1 (by simp; omega) (by simp; omega) W).mono ?_
          rw [HOP.out.1, HOP.out.2]
          rintro e W' ⟨rfl, hb⟩
          exact ⟨rfl, hW.trans (hb.mono hW.size)⟩
        go_simp
        refine hK _ ?_
        clear hK K
        refine wpQuiet_step (fun K hK => ?_)
        refine quiet_want (by kernel_rfl) ⟨(.tuple #[.string T, .int .i64 0]), fun W hW => ?_, ?_⟩
        · refine quietAt_val ?_
          go_simp
        go_simp
        refine hK _ ?_
        clear hK K
        refine wpQuiet_step (fun K hK => ?_)
        refine quiet_want (by kernel_rfl) ⟨(.string T), fun W hW => ?_, ?_⟩
        · refine quietAt_val ?_
          go_simp
        go_simp
        refine hK _ ?_
        clear hK K
        refine wpQuiet_step (fun K hK => ?_)
        refine quiet_want (by kernel_rfl) ⟨(.int .i64 0), fun W hW => ?_, ?_⟩
        · refine quietAt_val ?_
          go_simp
        go_simp
        refine hK _ ?_
        clear hK K
        refine wpQuiet_step (fun K hK => ?_)
        refine quiet_want (by kernel_rfl) ⟨(.string T), fun W hW => ?_, ?_⟩
        · refine quietAt_val ?_
          go_simp
        go_simp
        refine hK _ ?_
        clear hK K
        refine wpQuiet_step (fun K hK => ?_)
        refine quiet_want (by kernel_rfl) ⟨(.int .i64 0), fun W hW => ?_, ?_⟩
        · refine quietAt_val ?_
          go_simp
        go_simp
        refine hK _ ?_
        clear hK K
        refine wpQuiet_nil ?_
        intro W3 hB3
        have HB3 := Lib.hid hB3
        clear hB3
        have hidx := HIX.out
        go_wp2_with fail
        try simp only [Exit.inBlock, Exit.then]
        refine bodyPost_ret (results_tmp4 rfl _ _ _) rfl ?_
        exact ⟨rfl, HB3.out⟩
set_option maxRecDepth 100000 in
set_option maxHeartbeats 4000000 in
theorem rread_pad2 (b : Bool) (ks : List Int) (n : Nat) (s : ByteArray) (hk : ks.length = 32) (bk : U8s ks) (hn : n ≤ 1000000000) (hs : s.size ≤ 1000000) (h4 : 4 ≤ s.size) (hb : lenR (bI s) ≤ 33024) (hff : formB b (lenR (bI s)) = false) (hw : ¬ s.size < allR b (lenR (bI s))) (hc : bodyC b ks n (lenR (bI s)) (bI s) = 0) (hp : ¬ ix (bodyR b ks n (lenR (bI s)) (bI s)) 0 < 4 ∧ ((bodyR b ks n (lenR (bI s)) (bI s)).length : Int) ≤ ix (bodyR b ks n (lenR (bI s)) (bI s)) 0 + 1) (w : World) :
    Calls Tryz.prog 17 #[.string s, .string (keyS b ks), .int .i64 n] w fun e w' => e = .returned (.tuple #[.string ⟨#[]⟩, .string ⟨#[]⟩, .bool false, .int .i64 3]) ∧ Below w.heap.size w w' := by
  have i4 : ¬ (s.size : Int) < 4 := by omega
  have i4b : (4 : Int) ≤ s.size := by omega
  obtain ⟨hm, hmb⟩ := lenR_int s
  have hRu := bodyR_u8 b ks n (lenR (bI s)) s
  have hRl := bodyR_len b ks n (lenR (bI s)) s hc hw
  obtain ⟨T, hTT⟩ : ∃ T, T = strOfNums (bodyR b ks n (lenR (bI s)) (bI s)) := ⟨_, rfl⟩
  have HTT := Lib.hid hTT; have HCC := Lib.hid hc.symm
  have hTl : T.size = lenR (bI s) := by rw [hTT, str_size, hRl]
  obtain ⟨R, hR⟩ : ∃ R, R = bodyR b ks n (lenR (bI s)) (bI s) := ⟨_, rfl⟩
  rw [← hR] at hRu hRl hTT hp
  obtain ⟨q, hq⟩ : ∃ q : Nat, (q : Int) = ix R 0 := ⟨(ix R 0).toNat, by have := U8s_of_mem hRu 0; omega⟩
  have hq5 : q ≤ 255 := by have := U8s_of_mem hRu 0; omega
  have hidx : ∀ h : 0 < T.size, ((T[0]'h).toNat : Int) = (q : Int) := fun h => by rw [← ix_bI T 0 h, hTT, bI_str hRu, hq]
  have hm8 : 8 ≤ lenR (bI s) := by
    have h := form_no hff
    have h1 := h.1; have h2 := h.2
    rcases aheadN_or b with ⟨e, _⟩ | ⟨e, _⟩ <;> rw [e] at h1 h2 <;> omega
  have hT0 : (0 : Int) < T.size := by omega
  have htb : (T.size : Int) ≤ 33024 := by omega
  have k1 : ¬ (q : Int) < 4 := by omega
  have k2 : (T.size : Int) - 1 - q < 1 := by omega
  clear hp
  have HIX := Lib.hid hidx; have HTL := Lib.hid hTl; have HRU := Lib.hid hRu; have HTR := Lib.hid hTT; have HRL := Lib.hid hRl; have HQ := Lib.hid hq; have HRR := Lib.hid hR
  clear hTT hc hidx hTl hRu hRl hq hm8 hR
  obtain ⟨hf, hg⟩ := form_no hff
  clear hff
  generalize lenR (bI s) = m at hm hmb hb hf hg hw HTT HCC HTL HRL HRR
  have i5 : ¬ (33024 : Int) < m := by omega
  obtain ⟨L, hL⟩ : ∃ L, L = allR b m := ⟨_, rfl⟩
  have hL2 : (L : Int) = 4 + m + (tagN b : Nat) := by rw [hL]; unfold allR; omega
  have HL := Lib.hid hL2; have HLL := Lib.hid hL
  have i10 : ¬ (s.size : Int) < L := by omega
  have i11 : (L : Int) ≤ s.size := by omega
  have i12 : (4 : Int) ≤ L := by rw [hL]; unfold allR; omega
  clear hL hL2 hw
  have HM := Lib.hid hm
  have HK := Lib.hid hk; have BK := Lib.hid bk; have HN := Lib.hid hn
  clear hm hk bk hn
  cases b
  · have hke : keyS false ks = ⟨#[]⟩ := rfl
    rw [hke]
    clear hke
    go_enter Tryz.func17, Tryz.ntmps17
    go_wp2_with fail
    go_loop [10, 11] (fun nv iv => ∃ k : Nat, k ≤ 4 ∧ iv = .int .i64 k ∧ nv = .int .i64 (numT (bI s) k)) (fun _ iv => 4 - (intOf iv).toNat)
    case atStart => exact ⟨0, by omega, rfl, rfl⟩
    case round =>
      obtain ⟨k, hk4, rfl, rfl⟩ := hrel
      by_cases hlt : k < 4
      · have ii : (k : Int) < 4 := by omega
        have gs : ∀ h : k < s.size, ((s[k]'h).toNat : Int) = ix (bI s) k := fun h => (ix_bI s k h).symm
        have hnb := numT_bd (bI s) (U8s_bI s) k
        have hp : (256 : Int) ^ k ≤ 16777216 := by rcases (by omega : k = 0 ∨ k = 1 ∨ k = 2 ∨ k = 3) with h | h | h | h <;> (rw [h]; decide)
        have hx0 : 0 ≤ numT (bI s) k := hnb.1
        have hx1 : numT (bI s) k < 16777216 := by omega
        have hu0 := (U8s_bI s k).1
        have hu1 := (U8s_bI s k).2
        have iik : (k : Int) < s.size := by omega
        have HS := Lib.hid (show numT (bI s) (k + 1) = 256 * numT (bI s) k + ix (bI s) k by rw [numT]; omega)
        clear hnb hp
        go_wp2_with fail
        go_round
        case rel => exact ⟨k + 1, by omega, by go_num, by rw [HS.out]⟩
        case measure => simp [intOf]; omega
      · obtain rfl : k = 4 := by omega
        rw [HM.out]
        have j1 : ¬ (m : Int) < 12 := by have h := hf; rw [show aheadN false = 4 from rfl] at h; omega
        have j2 : ((((m : Int) + 4) % 8 != 0) = false) := by rw [bne_eq_false_iff_eq]; have h := hg; rw [show aheadN false = 4 from rfl] at h; omega
        have j3 : ((((m : Int) + 4) % 8 == 0) = true) := by rw [beq_iff_eq]; have h := hg; rw [show aheadN false = 4 from rfl] at h; omega
        clear hf hg
        have hL3 : (m : Int) + 4 = L := by have := HL.out; rw [show tagN false = 0 from rfl] at this; omega
        have j2L : (((L : Int) % 8 != 0) = false) := by rw [← hL3]; exact j2
        have j3L : (((L : Int) % 8 == 0) = true) := by rw [← hL3]; exact j3
        have HT := Lib.hid (show s.extract 4 L = T by rw [HTT.out]; exact str_rawR false m s ks n rfl HLL.out)
        have hT := HT.out
        have hidx := HIX.out
        go_wp2_with fail
        try simp only [Exit.inBlock, Exit.then]
        refine bodyPost_ret (results_tmp4 rfl _ _ _) rfl ?_
        exact ⟨rfl, (Below.refl _ _)⟩
  · have hke : keyS true ks = strOfNums ks := rfl
    rw [hke]
    obtain ⟨key, hkey⟩ : ∃ key, key = strOfNums ks := ⟨_, rfl⟩
    rw [← hkey]
    have HKS := Lib.hid (show key.size = 32 ∧ bI key = ks by rw [hkey, str_size, HK.out]; exact ⟨rfl, bI_str (mem_of_U8s BK.out)⟩)
    have hkn := str_ne (p := key) (by rw [HKS.out.1]; decide)
    have hkn3 : key.toList.isEmpty = false := by simpa using hkn
    have hkn4 : (!key.toList.isEmpty) = true := by simpa using hkn
    clear hke hkey
    go_enter Tryz.func17, Tryz.ntmps17
    go_wp2_with fail
    go_loop [10, 11] (fun nv iv => ∃ k : Nat, k ≤ 4 ∧ iv = .int .i64 k ∧ nv = .int .i64 (numT (bI s) k)) (fun _ iv => 4 - (intOf iv).toNat)
    case atStart => exact ⟨0, by omega, rfl, rfl⟩
    case round =>
      obtain ⟨k, hk4, rfl, rfl⟩ := hrel
      by_cases hlt : k < 4
      · have ii : (k : Int) < 4 := by omega
        have gs : ∀ h : k < s.size, ((s[k]'h).toNat : Int) = ix (bI s) k := fun h => (ix_bI s k h).symm
        have hnb := numT_bd (bI s) (U8s_bI s) k
        have hp : (256 : Int) ^ k ≤ 16777216 := by rcases (by omega : k = 0 ∨ k = 1 ∨ k = 2 ∨ k = 3) with h | h | h | h <;> (rw [h]; decide)
        have hx0 : 0 ≤ numT (bI s) k := hnb.1
        have hx1 : numT (bI s) k < 16777216 := by omega
        have hu0 := (U8s_bI s k).1
        have hu1 := (U8s_bI s k).2
        have iik : (k : Int) < s.size := by omega
        have HS := Lib.hid (show numT (bI s) (k + 1) = 256 * numT (bI s) k + ix (bI s) k by rw [numT]; omega)
        clear hnb hp
        go_wp2_with fail
        go_round
        case rel => exact ⟨k + 1, by omega, by go_num, by rw [HS.out]⟩
        case measure => simp [intOf]; omega
      · obtain rfl : k = 4 := by omega
        rw [HM.out]
        have j1 : ¬ (m : Int) < 8 := by have h := hf; rw [show aheadN true = 0 from rfl] at h; omega
        have j2 : (((m : Int) % 8 != 0) = false) := by rw [bne_eq_false_iff_eq]; have h := hg; rw [show aheadN true = 0 from rfl] at h; omega
        have j3 : (((m : Int) % 8 == 0) = true) := by rw [beq_iff_eq]; have h := hg; rw [show aheadN true = 0 from rfl] at h; omega
        clear hf hg
        have hL3 : (m : Int) + 20 = L := by have := HL.out; rw [show tagN true = 16 from rfl] at this; omega
        obtain ⟨N, hN⟩ : ∃ N, N = strOfNums (nonceN n) := ⟨_, rfl⟩
        have HNE := Lib.hid hN.symm
        have HNN := Lib.hid (show N.size = 12 ∧ bI N = nonceN n by rw [hN, str_size]; exact ⟨nonceN_length n, bI_str (nonceN_mem n)⟩)
        have HOP := Lib.hid (show strOfNums (openS (bI key) (bI N) (bI (s.extract 4 L)) (bI (s.extract 0 4))) = T ∧ openC (bI key) (bI N) (bI (s.extract 4 L)) (bI (s.extract 0 4)) = (0 : Int) by
          rw [HKS.out.2, HNN.out.2, HTT.out, HCC.out, HLL.out]
          exact open_raw ks n m s)
        clear hN
        go_wp2_with fail
        refine wp_region_class (fun W => Below w.heap.size w W) (by kernel_rfl) (by kernel_rfl) (below_drawnN (Below.refl _ _) 1) ?_
        refine wpQuiet_step (fun K hK => ?_)
        refine quiet_want (by kernel_rfl) ⟨(.string key), fun W hW => ?_, ?_⟩
        · refine quietAt_val ?_
          go_simp
        go_simp
        refine hK _ ?_
        clear hK K
        refine wpQuiet_step (fun K hK => ?_)
        refine quiet_want (by kernel_rfl) ⟨(.int .i64 n), fun W hW => ?_, ?_⟩
        · refine quietAt_val ?_
          go_simp
        go_simp
        refine hK _ ?_
        clear hK K
        refine wpQuiet_step (fun K hK => ?_)
        refine quiet_want (by kernel_rfl) ⟨(.string N), fun W hW => ?_, ?_⟩
        · refine quietAt_call (f := 32) (args := (#[.int .i64 n])) (by go_simp) ?_
          refine (rnonce_calls n HN.out W).mono ?_
          rw [HNE.out]
          rintro e W' ⟨rfl, hb⟩
          exact ⟨rfl, hW.trans (hb.mono hW.size)⟩
        go_simp
        refine hK _ ?_
        clear hK K
        refine wpQuiet_step (fun K hK => ?_)
        refine quiet_want (by kernel_rfl) ⟨(.string (s.extract 4 L)), fun W hW => ?_, ?_⟩
        · refine quietAt_val ?_
          go_simp
        go_simp
        refine hK _ ?_
        clear hK K
        refine wpQuiet_step (fun K hK => ?_)
        refine quiet_want (by kernel_rfl) ⟨(.string s), fun W hW => ?_, ?_⟩
        · refine quietAt_val ?_
          go_simp
        go_simp
        refine hK _ ?_
        clear hK K
        refine wpQuiet_step (fun K hK => ?_)
        refine quiet_want (by kernel_rfl) ⟨(.string (s.extract 0 4)), fun W hW => ?_, ?_⟩
        · refine quietAt_val ?_
          go_simp
        go_simp
        refine hK _ ?_
        clear hK K
        refine wpQuiet_step (fun K hK => ?_)
        refine quiet_want (by kernel_rfl) ⟨(.tuple #[.string T, .int .i64 0]), fun W hW => ?_, ?_⟩
        · refine quietAt_call (f := 37) (args := (#[.string key, .string N, .string (s.extract 4 L), .string (s.extract 0 4)])) (by go_simp) ?_
          refine (ropen_calls key N (s.extract 4 L) (s.extract 0 4) HKS.out.1 HNN.out.1 (by simp; omega) (by simp; omega) W).mono ?_
          rw [HOP.out.1, HOP.out.2]
          rintro e W' ⟨rfl, hb⟩
          exact ⟨rfl, hW.trans (hb.mono hW.size)⟩
        go_simp
        refine hK _ ?_
        clear hK K
        refine wpQuiet_step (fun K hK => ?_)
        refine quiet_want (by kernel_rfl) ⟨(.tuple #[.string T, .int .i64 0]), fun W hW => ?_, ?_⟩
        · refine quietAt_val ?_
          go_simp
        go_simp
        refine hK _ ?_
        clear hK K
        refine wpQuiet_step (fun K hK => ?_)
        refine quiet_want (by kernel_rfl) ⟨(.string T), fun W hW => ?_, ?_⟩
        · refine quietAt_val ?_
          go_simp
        go_simp
        refine hK _ ?_
        clear hK K
        refine wpQuiet_step (fun K hK => ?_)
        refine quiet_want (by kernel_rfl) ⟨(.int .i64 0), fun W hW => ?_, ?_⟩
        · refine quietAt_val ?_
          go_simp
        go_simp
        refine hK _ ?_
        clear hK K
        refine wpQuiet_step (fun K hK => ?_)
        refine quiet_want (by kernel_rfl) ⟨(.string T), fun W hW => ?_, ?_⟩
        · refine quietAt_val ?_
          go_simp
        go_simp
        refine hK _ ?_
        clear hK K
        refine wpQuiet_step (fun K hK => ?_)
        refine quiet_want (by kernel_rfl) ⟨(.int .i64 0), fun W hW => ?_, ?_⟩
        · refine quietAt_val ?_
          go_simp
        go_simp
        refine hK _ ?_
        clear hK K
        refine wpQuiet_nil ?_
        intro W3 hB3
        have HB3 := Lib.hid hB3
        clear hB3
        have hidx := HIX.out
        go_wp2_with fail
        try simp only [Exit.inBlock, Exit.then]
        refine bodyPost_ret (results_tmp4 rfl _ _ _) rfl ?_
        exact ⟨rfl, HB3.out⟩
set_option maxRecDepth 100000 in
set_option maxHeartbeats 4000000 in
theorem rread_got (b : Bool) (ks : List Int) (n : Nat) (s : ByteArray) (hk : ks.length = 32) (bk : U8s ks) (hn : n ≤ 1000000000) (hs : s.size ≤ 1000000) (h4 : 4 ≤ s.size) (hb : lenR (bI s) ≤ 33024) (hff : formB b (lenR (bI s)) = false) (hw : ¬ s.size < allR b (lenR (bI s))) (hc : bodyC b ks n (lenR (bI s)) (bI s) = 0) (hp : ¬ ix (bodyR b ks n (lenR (bI s)) (bI s)) 0 < 4 ∧ ¬ ((bodyR b ks n (lenR (bI s)) (bI s)).length : Int) ≤ ix (bodyR b ks n (lenR (bI s)) (bI s)) 0 + 1) (w : World) :
    Calls Tryz.prog 17 #[.string s, .string (keyS b ks), .int .i64 n] w fun e w' => e = .returned (.tuple #[.string (strOfNums (((bodyR b ks n (lenR (bI s)) (bI s)).take ((bodyR b ks n (lenR (bI s)) (bI s)).length - (ix (bodyR b ks n (lenR (bI s)) (bI s)) 0).toNat)).drop 1)), .string (s.extract (allR b (lenR (bI s))) s.size), .bool true, .int .i64 0]) ∧ Below w.heap.size w w' := by
  have i4 : ¬ (s.size : Int) < 4 := by omega
  have i4b : (4 : Int) ≤ s.size := by omega
  obtain ⟨hm, hmb⟩ := lenR_int s
  have hRu := bodyR_u8 b ks n (lenR (bI s)) s
  have hRl := bodyR_len b ks n (lenR (bI s)) s hc hw
  obtain ⟨T, hTT⟩ : ∃ T, T = strOfNums (bodyR b ks n (lenR (bI s)) (bI s)) := ⟨_, rfl⟩
  have HTT := Lib.hid hTT; have HCC := Lib.hid hc.symm
  have hTl : T.size = lenR (bI s) := by rw [hTT, str_size, hRl]
  obtain ⟨R, hR⟩ : ∃ R, R = bodyR b ks n (lenR (bI s)) (bI s) := ⟨_, rfl⟩
  rw [← hR] at hRu hRl hTT hp
  obtain ⟨q, hq⟩ : ∃ q : Nat, (q : Int) = ix R 0 := ⟨(ix R 0).toNat, by have := U8s_of_mem hRu 0; omega⟩
  have hq5 : q ≤ 255 := by have := U8s_of_mem hRu 0; omega
  have hidx : ∀ h : 0 < T.size, ((T[0]'h).toNat : Int) = (q : Int) := fun h => by rw [← ix_bI T 0 h, hTT, bI_str hRu, hq]
  have hm8 : 8 ≤ lenR (bI s) := by
    have h := form_no hff
    have h1 := h.1; have h2 := h.2
    rcases aheadN_or b with ⟨e, _⟩ | ⟨e, _⟩ <;> rw [e] at h1 h2 <;> omega
  have hT0 : (0 : Int) < T.size := by omega
  have htb : (T.size : Int) ≤ 33024 := by omega
  have k1 : ¬ (q : Int) < 4 := by omega
  have k2 : ¬ (T.size : Int) - 1 - q < 1 := by omega
  obtain ⟨j, hj⟩ : ∃ j : Nat, j + q = T.size := ⟨T.size - q, by omega⟩
  have j3 : (T.size : Int) - q = j := by omega
  have j4 : (1 : Int) ≤ j := by omega
  have j5 : (j : Int) ≤ T.size := by omega
  have j6 : (j : Int) ≤ 33024 := by omega
  have hout : strOfNums ((R.take (R.length - (ix R 0).toNat)).drop 1) = T.extract 1 j := by
    rw [← hq, hTT, out_is R hRu]
    congr 3
    omega
  rw [← hR, hout]
  have HJ := Lib.hid j3
  clear hp hout hj j3
  have HIX := Lib.hid hidx; have HTL := Lib.hid hTl; have HRU := Lib.hid hRu; have HTR := Lib.hid hTT; have HRL := Lib.hid hRl; have HQ := Lib.hid hq; have HRR := Lib.hid hR
  clear hTT hc hidx hTl hRu hRl hq hm8 hR
  obtain ⟨hf, hg⟩ := form_no hff
  clear hff
  generalize lenR (bI s) = m at hm hmb hb hf hg hw HTT HCC HTL HRL HRR ⊢
  have i5 : ¬ (33024 : Int) < m := by omega
  obtain ⟨L, hL⟩ : ∃ L, L = allR b m := ⟨_, rfl⟩
  have hL2 : (L : Int) = 4 + m + (tagN b : Nat) := by rw [hL]; unfold allR; omega
  have HL := Lib.hid hL2; have HLL := Lib.hid hL
  have i10 : ¬ (s.size : Int) < L := by omega
  have i11 : (L : Int) ≤ s.size := by omega
  have i12 : (4 : Int) ≤ L := by rw [hL]; unfold allR; omega
  rw [← hL]
  clear hL hL2 hw
  have HM := Lib.hid hm
  have HK := Lib.hid hk; have BK := Lib.hid bk; have HN := Lib.hid hn
  clear hm hk bk hn
  cases b
  · have hke : keyS false ks = ⟨#[]⟩ := rfl
    rw [hke]
    clear hke
    go_enter Tryz.func17, Tryz.ntmps17
    go_wp2_with fail
    go_loop [10, 11] (fun nv iv => ∃ k : Nat, k ≤ 4 ∧ iv = .int .i64 k ∧ nv = .int .i64 (numT (bI s) k)) (fun _ iv => 4 - (intOf iv).toNat)
    case atStart => exact ⟨0, by omega, rfl, rfl⟩
    case round =>
      obtain ⟨k, hk4, rfl, rfl⟩ := hrel
      by_cases hlt : k < 4
      · have ii : (k : Int) < 4 := by omega
        have gs : ∀ h : k < s.size, ((s[k]'h).toNat : Int) = ix (bI s) k := fun h => (ix_bI s k h).symm
        have hnb := numT_bd (bI s) (U8s_bI s) k
        have hp : (256 : Int) ^ k ≤ 16777216 := by rcases (by omega : k = 0 ∨ k = 1 ∨ k = 2 ∨ k = 3) with h | h | h | h <;> (rw [h]; decide)
        have hx0 : 0 ≤ numT (bI s) k := hnb.1
        have hx1 : numT (bI s) k < 16777216 := by omega
        have hu0 := (U8s_bI s k).1
        have hu1 := (U8s_bI s k).2
        have iik : (k : Int) < s.size := by omega
        have HS := Lib.hid (show numT (bI s) (k + 1) = 256 * numT (bI s) k + ix (bI s) k by rw [numT]; omega)
        clear hnb hp
        go_wp2_with fail
        go_round
        case rel => exact ⟨k + 1, by omega, by go_num, by rw [HS.out]⟩
        case measure => simp [intOf]; omega
      · obtain rfl : k = 4 := by omega
        rw [HM.out]
        have j1 : ¬ (m : Int) < 12 := by have h := hf; rw [show aheadN false = 4 from rfl] at h; omega
        have j2 : ((((m : Int) + 4) % 8 != 0) = false) := by rw [bne_eq_false_iff_eq]; have h := hg; rw [show aheadN false = 4 from rfl] at h; omega
        have j3 : ((((m : Int) + 4) % 8 == 0) = true) := by rw [beq_iff_eq]; have h := hg; rw [show aheadN false = 4 from rfl] at h; omega
        clear hf hg
        have hL3 : (m : Int) + 4 = L := by have := HL.out; rw [show tagN false = 0 from rfl] at this; omega
        have j2L : (((L : Int) % 8 != 0) = false) := by rw [← hL3]; exact j2
        have j3L : (((L : Int) % 8 == 0) = true) := by rw [← hL3]; exact j3
        have HT := Lib.hid (show s.extract 4 L = T by rw [HTT.out]; exact str_rawR false m s ks n rfl HLL.out)
        have hT := HT.out
        have hidx := HIX.out
        go_wp2_with fail
        have j3 := HJ.out
        go_quiet (fail)
        go_wp2_with fail
        try simp only [Exit.inBlock, Exit.then]
        refine bodyPost_ret (results_tmp4 rfl _ _ _) rfl ?_
        exact ⟨rfl, below_drawnN (Below.refl _ _) _⟩
  · have hke : keyS true ks = strOfNums ks := rfl
    rw [hke]
    obtain ⟨key, hkey⟩ : ∃ key, key = strOfNums ks := ⟨_, rfl⟩
    rw [← hkey]
    have HKS := Lib.hid (show key.size = 32 ∧ bI key = ks by rw [hkey, str_size, HK.out]; exact ⟨rfl, bI_str (mem_of_U8s BK.out)⟩)
    have hkn := str_ne (p := key) (by rw [HKS.out.1]; decide)
    have hkn3 : key.toList.isEmpty = false := by simpa using hkn
    have hkn4 : (!key.toList.isEmpty) = true := by simpa using hkn
    clear hke hkey
    go_enter Tryz.func17, Tryz.ntmps17
    go_wp2_with fail
    go_loop [10, 11] (fun nv iv => ∃ k : Nat, k ≤ 4 ∧ iv = .int .i64 k ∧ nv = .int .i64 (numT (bI s) k)) (fun _ iv => 4 - (intOf iv).toNat)
    case atStart => exact ⟨0, by omega, rfl, rfl⟩
    case round =>
      obtain ⟨k, hk4, rfl, rfl⟩ := hrel
      by_cases hlt : k < 4
      · have ii : (k : Int) < 4 := by omega
        have gs : ∀ h : k < s.size, ((s[k]'h).toNat : Int) = ix (bI s) k := fun h => (ix_bI s k h).symm
        have hnb := numT_bd (bI s) (U8s_bI s) k
        have hp : (256 : Int) ^ k ≤ 16777216 := by rcases (by omega : k = 0 ∨ k = 1 ∨ k = 2 ∨ k = 3) with h | h | h | h <;> (rw [h]; decide)
        have hx0 : 0 ≤ numT (bI s) k := hnb.1
        have hx1 : numT (bI s) k < 16777216 := by omega
        have hu0 := (U8s_bI s k).1
        have hu1 := (U8s_bI s k).2
        have iik : (k : Int) < s.size := by omega
        have HS := Lib.hid (show numT (bI s) (k + 1) = 256 * numT (bI s) k + ix (bI s) k by rw [numT]; omega)
        clear hnb hp
        go_wp2_with fail
        go_round
        case rel => exact ⟨k + 1, by omega, by go_num, by rw [HS.out]⟩
        case measure => simp [intOf]; omega
      · obtain rfl : k = 4 := by omega
        rw [HM.out]
        have j1 : ¬ (m : Int) < 8 := by have h := hf; rw [show aheadN true = 0 from rfl] at h; omega
        have j2 : (((m : Int) % 8 != 0) = false) := by rw [bne_eq_false_iff_eq]; have h := hg; rw [show aheadN true = 0 from rfl] at h; omega
        have j3 : (((m : Int) % 8 == 0) = true) := by rw [beq_iff_eq]; have h := hg; rw [show aheadN true = 0 from rfl] at h; omega
        clear hf hg
        have hL3 : (m : Int) + 20 = L := by have := HL.out; rw [show tagN true = 16 from rfl] at this; omega
        obtain ⟨N, hN⟩ : ∃ N, N = strOfNums (nonceN n) := ⟨_, rfl⟩
        have HNE := Lib.hid hN.symm
        have HNN := Lib.hid (show N.size = 12 ∧ bI N = nonceN n by rw [hN, str_size]; exact ⟨nonceN_length n, bI_str (nonceN_mem n)⟩)
        have HOP := Lib.hid (show strOfNums (openS (bI key) (bI N) (bI (s.extract 4 L)) (bI (s.extract 0 4))) = T ∧ openC (bI key) (bI N) (bI (s.extract 4 L)) (bI (s.extract 0 4)) = (0 : Int) by
          rw [HKS.out.2, HNN.out.2, HTT.out, HCC.out, HLL.out]
          exact open_raw ks n m s)
        clear hN
        go_wp2_with fail
        refine wp_region_class (fun W => Below w.heap.size w W) (by kernel_rfl) (by kernel_rfl) (below_drawnN (Below.refl _ _) 1) ?_
        refine wpQuiet_step (fun K hK => ?_)
        refine quiet_want (by kernel_rfl) ⟨(.string key), fun W hW => ?_, ?_⟩
        · refine quietAt_val ?_
          go_simp
        go_simp
        refine hK _ ?_
        clear hK K
        refine wpQuiet_step (fun K hK => ?_)
        refine quiet_want (by kernel_rfl) ⟨(.int .i64 n), fun W hW => ?_, ?_⟩
        · refine quietAt_val ?_
          go_simp
        go_simp
        refine hK _ ?_
        clear hK K
        refine wpQuiet_step (fun K hK => ?_)
        refine quiet_want (by kernel_rfl) ⟨(.string N), fun W hW => ?_, ?_⟩
        · refine quietAt_call (f := 32) (args := (#[.int .i64 n])) (by go_simp) ?_
          refine (rnonce_calls n HN.out W).mono ?_
          rw [HNE.out]
          rintro e W' ⟨rfl, hb⟩
          exact ⟨rfl, hW.trans (hb.mono hW.size)⟩
        go_simp
        refine hK _ ?_
        clear hK K
        refine wpQuiet_step (fun K hK => ?_)
        refine quiet_want (by kernel_rfl) ⟨(.string (s.extract 4 L)), fun W hW => ?_, ?_⟩
        · refine quietAt_val ?_
          go_simp
        go_simp
        refine hK _ ?_
        clear hK K
        refine wpQuiet_step (fun K hK => ?_)
        refine quiet_want (by kernel_rfl) ⟨(.string s), fun W hW => ?_, ?_⟩
        · refine quietAt_val ?_
          go_simp
        go_simp
        refine hK _ ?_
        clear hK K
        refine wpQuiet_step (fun K hK => ?_)
        refine quiet_want (by kernel_rfl) ⟨(.string (s.extract 0 4)), fun W hW => ?_, ?_⟩
        · refine quietAt_val ?_
          go_simp
        go_simp
        refine hK _ ?_
        clear hK K
        refine wpQuiet_step (fun K hK => ?_)
        refine quiet_want (by kernel_rfl) ⟨(.tuple #[.string T, .int .i64 0]), fun W hW => ?_, ?_⟩
        · refine quietAt_call (f := 37) (args := (#[.string key, .string N, .string (s.extract 4 L), .string (s.extract 0 4)])) (by go_simp) ?_
          refine (ropen_calls key N (s.extract 4 L) (s.extract 0 4) HKS.out.1 HNN.out.1 (by simp; omega) (by simp; omega) W).mono ?_
          rw [HOP.out.1, HOP.out.2]
          rintro e W' ⟨rfl, hb⟩
          exact ⟨rfl, hW.trans (hb.mono hW.size)⟩
        go_simp
        refine hK _ ?_
        clear hK K
        refine wpQuiet_step (fun K hK => ?_)
        refine quiet_want (by kernel_rfl) ⟨(.tuple #[.string T, .int .i64 0]), fun W hW => ?_, ?_⟩
        · refine quietAt_val ?_
          go_simp
        go_simp
        refine hK _ ?_
        clear hK K
        refine wpQuiet_step (fun K hK => ?_)
        refine quiet_want (by kernel_rfl) ⟨(.string T), fun W hW => ?_, ?_⟩
        · refine quietAt_val ?_
          go_simp
        go_simp
        refine hK _ ?_
        clear hK K
        refine wpQuiet_step (fun K hK => ?_)
        refine quiet_want (by kernel_rfl) ⟨(.int .i64 0), fun W hW => ?_, ?_⟩
        · refine quietAt_val ?_
          go_simp
        go_simp
        refine hK _ ?_
        clear hK K
        refine wpQuiet_step (fun K hK => ?_)
        refine quiet_want (by kernel_rfl) ⟨(.string T), fun W hW => ?_, ?_⟩
        · refine quietAt_val ?_
          go_simp
        go_simp
        refine hK _ ?_
        clear hK K
        refine wpQuiet_step (fun K hK => ?_)
        refine quiet_want (by kernel_rfl) ⟨(.int .i64 0), fun W hW => ?_, ?_⟩
        · refine quietAt_val ?_
          go_simp
        go_simp
        refine hK _ ?_
        clear hK K
        refine wpQuiet_nil ?_
        intro W3 hB3
        have HB3 := Lib.hid hB3
        clear hB3
        have hidx := HIX.out
        go_wp2_with fail
        have j3 := HJ.out
        go_quiet (fail)
        go_wp2_with fail
        try simp only [Exit.inBlock, Exit.then]
        refine bodyPost_ret (results_tmp4 rfl _ _ _) rfl ?_
        exact ⟨rfl, below_drawnN HB3.out _⟩
end Go.Proofs.YtfoljmpphbhobaaGreatDoor
