/- The walks of the reference's numbers: Bytes, Of. -/
import Derived.Test.YtfoljmpphbhobaaDoorNum1
namespace Go.Proofs.YtfoljmpphbhobaaDoor
open Go.RowKit Go.Spk
set_option linter.unusedVariables false
/-- The lowest m bytes of n. -/
def bytesN (n m : Nat) : List Int := (List.range m).map fun j => ((n / 256 ^ j % 256 : Nat) : Int)
theorem bytesN_length (n m : Nat) : (bytesN n m).length = m := by simp [bytesN]
theorem bytesN_succ (n m : Nat) : bytesN n (m + 1) = bytesN n m ++ [((n / 256 ^ m % 256 : Nat) : Int)] := by simp [bytesN, List.range_succ]
theorem bytesN_mem (n m : Nat) : ∀ b ∈ bytesN n m, 0 ≤ b ∧ b ≤ 255 := by
  intro b hb
  obtain ⟨j, _, rfl⟩ := List.mem_map.1 hb
  omega
theorem byte_even (n k : Nat) : ix (dg n) k % 256 = ((n / 256 ^ (2 * k) % 256 : Nat) : Int) := by
  rw [ix_dg, Nat.pow_mul, show (256 : Nat) ^ 2 = 65536 from rfl]
  omega
theorem byte_odd (n k : Nat) : ix (dg n) k / 256 % 256 = ((n / 256 ^ (2 * k + 1) % 256 : Nat) : Int) := by
  rw [ix_dg, Nat.pow_succ, Nat.pow_mul, show (256 : Nat) ^ 2 = 65536 from rfl, ← Nat.div_div_eq_div_mul]
  omega
set_option maxRecDepth 100000 in
set_option maxHeartbeats 1000000 in
theorem bytes_calls (n m g cap : Nat) (hm : m ≤ 1000000) (w : World) (hD : Dr w g cap (dg n)) :
    Calls Tryd.prog 54 #[.slice (some ⟨g, 0, none⟩) (dg n).length cap, .int .i64 m] w
      fun e w' => e = .returned (.string (strOfNums (bytesN n m))) ∧ Below w.heap.size w w' := by
  have hroom := hD.room
  have hmax := hD.max
  unfold maxLen at hmax
  generalize hl : (dg n).length = len at hroom
  have HLn := Lib.hid hl
  clear hl
  go_enter Tryd.func54, Tryd.ntmps54
  go_wp2_with fail
  go_loopw [5, 6] (fun v i wr => ∃ k g cap : Nat, k ≤ m ∧ i = .int .i64 k ∧ v = .slice (some ⟨g, 0, none⟩) k cap ∧ Own wr w.heap.size 5 .u8 g k cap (bytesN n k) ∧ Below w.heap.size w wr) (fun _ i _ => m - (intOf i).toNat)
  case atStart => exact ⟨0, w.heap.size, 0, by omega, rfl, rfl, Own.made rfl (Nat.le_refl _) (by decide) rfl rfl, (Below.refl _ w).alloc (Nat.le_refl _) _⟩
  case round =>
    obtain ⟨k, g1, cap1, hk, rfl, rfl, hO, hB⟩ := hrel
    by_cases hlt : k < m
    · have i0 : (k : Int) < m := by omega
      have hDr := hD.on hB
      obtain ⟨q, rfl | rfl⟩ : ∃ q, k = 2 * q ∨ k = 2 * q + 1 := ⟨k / 2, by omega⟩
      · have e1 : (2 * (q : Int)) / 2 = q := by omega
        have e2 : ((2 * q : Nat) : Int) = 2 * (q : Int) := by omega
        have e3 : (2 * (q : Int)) % 2 = 0 := by omega
        have hd := dg_digs n q
        obtain ⟨d0, d1⟩ := hd
        have hbe := byte_even n q
        have HBE := Lib.hid hbe
        clear hbe
        rw [e2] at i0 ⊢
        have j0 : (0 : Int) ≤ 2 * (q : Int) := by omega
        clear e2
        by_cases hc : q < len
        · have c0 := hDr.cell q (by rw [HLn.out]; exact hc)
          have j1 : (q : Int) < len := by omega
          go_wp2_with (at_builtin; refine wpList_push rfl (.tmp 29) (.tmp 33) 28 rfl 1 Tryd.underlying28 (by kernel_rfl) rfl (hO.alloc _) ⟨wr.heap.size, 0, none⟩ 1 1 [ix (dg n) q % 256] rfl rfl (cell_one (by simp)) (by omega) (by omega) (by omega) ?_; intro g' cap' wz hO1 hgr hat)
          go_roundw
          case rel => exact ⟨2 * q + 1, g', cap', by omega, by go_num, rfl, by rw [bytesN_succ, ← HBE.out]; exact hO1, (hB.alloc hB.size _).grown hgr (by simp; exact Nat.le_succ_of_le hB.size) (fun q hq => by injection hq with hq; subst hq; exact hO.lt.1)⟩
          case measure => simp [intOf]; omega
        · have z0 := ix_end (dg n) q (by rw [HLn.out]; omega)
          have HZ0 := Lib.hid z0
          clear z0
          have j1 : ¬ (q : Int) < len := by omega
          go_wp2_with (at_builtin; refine wpList_push rfl (.tmp 29) (.tmp 33) 28 rfl 1 Tryd.underlying28 (by kernel_rfl) rfl (hO.alloc _) ⟨wr.heap.size, 0, none⟩ 1 1 [0] rfl rfl (cell_one (by simp)) (by omega) (by omega) (by omega) ?_; intro g' cap' wz hO1 hgr hat)
          go_roundw
          case rel => exact ⟨2 * q + 1, g', cap', by omega, by go_num, rfl, by rw [bytesN_succ, ← HBE.out, HZ0.out]; exact hO1, (hB.alloc hB.size _).grown hgr (by simp; exact Nat.le_succ_of_le hB.size) (fun q hq => by injection hq with hq; subst hq; exact hO.lt.1)⟩
          case measure => simp [intOf]; omega
      · have e1 : (2 * (q : Int) + 1) / 2 = q := by omega
        have e2 : ((2 * q + 1 : Nat) : Int) = 2 * (q : Int) + 1 := by omega
        have e3 : (2 * (q : Int) + 1) % 2 = 1 := by omega
        have hd := dg_digs n q
        obtain ⟨d0, d1⟩ := hd
        have hbe := byte_odd n q
        have HBE := Lib.hid hbe
        clear hbe
        rw [e2] at i0 ⊢
        have j0 : (0 : Int) ≤ 2 * (q : Int) + 1 := by omega
        clear e2
        by_cases hc : q < len
        · have c0 := hDr.cell q (by rw [HLn.out]; exact hc)
          have j1 : (q : Int) < len := by omega
          go_wp2_with (at_builtin; refine wpList_push rfl (.tmp 29) (.tmp 33) 28 rfl 1 Tryd.underlying28 (by kernel_rfl) rfl (hO.alloc _) ⟨wr.heap.size, 0, none⟩ 1 1 [ix (dg n) q / 256 % 256] rfl rfl (cell_one (by simp)) (by omega) (by omega) (by omega) ?_; intro g' cap' wz hO1 hgr hat)
          go_roundw
          case rel => exact ⟨2 * q + 1 + 1, g', cap', by omega, by go_num, rfl, by rw [bytesN_succ, ← HBE.out]; exact hO1, (hB.alloc hB.size _).grown hgr (by simp; exact Nat.le_succ_of_le hB.size) (fun q hq => by injection hq with hq; subst hq; exact hO.lt.1)⟩
          case measure => simp [intOf]; omega
        · have z0 := ix_end (dg n) q (by rw [HLn.out]; omega)
          have HZ0 := Lib.hid z0
          clear z0
          have j1 : ¬ (q : Int) < len := by omega
          go_wp2_with (at_builtin; refine wpList_push rfl (.tmp 29) (.tmp 33) 28 rfl 1 Tryd.underlying28 (by kernel_rfl) rfl (hO.alloc _) ⟨wr.heap.size, 0, none⟩ 1 1 [0] rfl rfl (cell_one (by simp)) (by omega) (by omega) (by omega) ?_; intro g' cap' wz hO1 hgr hat)
          go_roundw
          case rel => exact ⟨2 * q + 1 + 1, g', cap', by omega, by go_num, rfl, by rw [bytesN_succ, ← HBE.out, HZ0.out]; exact hO1, (hB.alloc hB.size _).grown hgr (by simp; exact Nat.le_succ_of_le hB.size) (fun q hq => by injection hq with hq; subst hq; exact hO.lt.1)⟩
          case measure => simp [intOf]; omega
    · obtain rfl : k = m := by omega
      have hl64 := hO.len
      have hcl : ∀ q, q < k → wr.cell? ⟨g1, 0 + q, none⟩ = some (.int .u8 ((bytesN n k).getD q 0)) := fun q hq => by rw [Nat.zero_add]; exact hO.cell q hq
      have hrun := run_convert_bytes_arg (P := Tryd.prog) wr 28 5 Tryd.underlying28 Tryd.underlying5 g1 0 k cap1 (bytesN n k) hl64 hcl 9 Tryd.underlying9
      clear hl64 hcl
      go_wp2_with fail
      go_ret
      exact ⟨rfl, hB⟩
/-- The number of bytes, the lowest first. -/
def nb : List Int → Int
  | [] => 0
  | b :: bs => b + 256 * nb bs
def ofL : List Int → List Int
  | [] => []
  | [b] => [b]
  | b :: c :: bs => (b + 256 * c) :: ofL bs
theorem nv_nil : nv [] = 0 := rfl
theorem nv_ofL (bs : List Int) : nv (ofL bs) = nb bs := by
  induction bs using ofL.induct with
  | case1 => rfl
  | case2 b => rw [ofL, nv_cons, nv_nil]; simp [nb]
  | case3 b c bs ih => rw [ofL, nv_cons, ih]; simp only [nb]; omega
theorem ofL_length (bs : List Int) : (ofL bs).length = (bs.length + 1) / 2 := by
  induction bs using ofL.induct with
  | case1 => rfl
  | case2 b => simp [ofL]
  | case3 b c bs ih => rw [ofL, List.length_cons, ih]; simp only [List.length_cons]; omega
theorem ofL_push_even (bs : List Int) (b : Int) (h : bs.length % 2 = 0) : ofL (bs ++ [b]) = ofL bs ++ [b] := by
  induction bs using ofL.induct with
  | case1 => rfl
  | case2 b => simp at h
  | case3 b c bs ih => simp only [List.cons_append, ofL]; rw [ih (by simp only [List.length_cons] at h; omega)]
theorem ofL_push_odd (bs : List Int) (b : Int) (h : bs.length % 2 = 1) : ofL (bs ++ [b]) = (ofL bs).set (bs.length / 2) (ix (ofL bs) (bs.length / 2) + 256 * b) := by
  induction bs using ofL.induct with
  | case1 => simp at h
  | case2 b => simp [ofL, ix]
  | case3 b c bs ih =>
    simp only [List.cons_append, ofL]
    rw [ih (by simp only [List.length_cons] at h; omega)]
    simp only [List.length_cons, show (bs.length + 1 + 1) / 2 = bs.length / 2 + 1 by omega, List.set_cons_succ, ix_cons_succ]
theorem ofL_digs (bs : List Int) (h : U8s bs) : Digs (ofL bs) := by
  induction bs using ofL.induct with
  | case1 => intro i; simp [ofL, ix]
  | case2 b => intro i
               have := h 0
               rw [ix_cons_zero] at this
               cases i with
               | zero => rw [ofL, ix_cons_zero]; omega
               | succ i => rw [ofL, ix_cons_succ]; simp [ix]
  | case3 b c bs ih => intro i
                       have h0 := h 0
                       have h1 := h 1
                       rw [ix_cons_zero] at h0
                       rw [show (1 : Nat) = 0 + 1 from rfl, ix_cons_succ, ix_cons_zero] at h1
                       cases i with
                       | zero => rw [ofL, ix_cons_zero]; omega
                       | succ i => rw [ofL, ix_cons_succ]; exact ih (fun j => by have := h (j + 2); rwa [show j + 2 = (j + 1) + 1 from rfl, ix_cons_succ, ix_cons_succ] at this) i
theorem take_push (ws : List Int) (k : Nat) (h : k < ws.length) : ws.take (k + 1) = ws.take k ++ [ix ws k] := by
  rw [List.take_add_one]
  simp [ix, List.getD, h]
set_option maxRecDepth 100000 in
set_option maxHeartbeats 1000000 in
theorem of_calls (s : ByteArray) (hs : s.size ≤ 1000000) (w : World) : Calls Tryd.prog 45 #[.string s] w (Gives w (nb (bI s)).toNat) := by
  have gs : ∀ (n : Nat) (h : n < s.size), ((s[n]'h).toNat : Int) = ix (bI s) n := fun n h => (ix_bI s n h).symm
  go_enter Tryd.func45, Tryd.ntmps45
  go_wp2_with fail
  go_loopw [3, 4] (fun v i wr => ∃ k g cap : Nat, k ≤ s.size ∧ i = .int .i64 k ∧ v = .slice (some ⟨g, 0, none⟩) ((k + 1) / 2) cap ∧ Own wr w.heap.size 3 .i64 g ((k + 1) / 2) cap (ofL ((bI s).take k)) ∧ Below w.heap.size w wr) (fun _ i _ => s.size - (intOf i).toNat)
  case atStart => exact ⟨0, w.heap.size, 0, by omega, rfl, rfl, Own.made rfl (Nat.le_refl _) (by decide) rfl rfl, (Below.refl _ w).alloc (Nat.le_refl _) _⟩
  case round =>
    obtain ⟨k, g1, cap1, hk, rfl, rfl, hO, hB⟩ := hrel
    have hU := U8s_bI s
    by_cases hlt : k < s.size
    · have i0 : (k : Int) < s.size := by omega
      have hu := hU k
      obtain ⟨u0, u1⟩ := hu
      have htk := take_push (bI s) k (by rw [bI_length]; exact hlt)
      have hlk : ((bI s).take k).length = k := by rw [List.length_take, bI_length]; omega
      have HTK := Lib.hid htk; have HLK := Lib.hid hlk
      clear htk hlk
      obtain ⟨q, rfl | rfl⟩ : ∃ q, k = 2 * q ∨ k = 2 * q + 1 := ⟨k / 2, by omega⟩
      · have e2 : ((2 * q : Nat) : Int) = 2 * (q : Int) := by omega
        have e3 : (2 * (q : Int)) % 2 = 0 := by omega
        have e4 : (2 * q + 1) / 2 = q := by omega
        have hps := ofL_push_even ((bI s).take (2 * q)) (ix (bI s) (2 * q)) (by rw [HLK.out]; omega)
        have HPS := Lib.hid hps
        have n0 : (2 * (q : Int)).toNat = 2 * q := by omega
        clear hps
        rw [e2] at i0 ⊢
        rw [e4] at hO ⊢
        have j0 : (0 : Int) ≤ 2 * (q : Int) := by omega
        clear e2 e4
        go_wp2_with (at_builtin; refine wpList_push rfl (.tmp 15) (.tmp 20) 56 rfl 8 Tryd.underlying56 (by kernel_rfl) rfl (hO.alloc _) ⟨wr.heap.size, 0, none⟩ 1 1 [ix (bI s) (2 * q)] rfl rfl (cell_one (by simp)) (by omega) (by omega) (by omega) ?_; intro g' cap' wz hO1 hgr hat)
        go_roundw
        case rel => exact ⟨2 * q + 1, g', cap', by omega, by go_num, by congr 1; omega, by rw [HTK.out, HPS.out, show (2 * q + 1 + 1) / 2 = q + 1 by omega]; exact hO1, (hB.alloc hB.size _).grown hgr (by simp; exact Nat.le_succ_of_le hB.size) (fun q hq => by injection hq with hq; subst hq; exact hO.lt.1)⟩
        case measure => simp [intOf]; omega
      · have e2 : ((2 * q + 1 : Nat) : Int) = 2 * (q : Int) + 1 := by omega
        have e3 : (2 * (q : Int) + 1) % 2 = 1 := by omega
        have e4 : (2 * q + 1 + 1) / 2 = q + 1 := by omega
        have e5 : (2 * (q : Int) + 1) / 2 = q := by omega
        have hps := ofL_push_odd ((bI s).take (2 * q + 1)) (ix (bI s) (2 * q + 1)) (by rw [HLK.out]; omega)
        rw [HLK.out, show (2 * q + 1) / 2 = q by omega] at hps
        have HPS := Lib.hid hps
        have n0 : (2 * (q : Int) + 1).toNat = 2 * q + 1 := by omega
        clear hps
        rw [e2] at i0 ⊢
        rw [e4] at hO ⊢
        have j0 : (0 : Int) ≤ 2 * (q : Int) + 1 := by omega
        have j1 : (q : Int) < ((q + 1 : Nat) : Int) := by omega
        have c0 := hO.cell q (by omega)
        have f0 := hO.frozen q
        have hdq := ofL_digs ((bI s).take (2 * q + 1)) (fun i => by
          by_cases h : i < 2 * q + 1
          · have := hU i
            rwa [show ix (bI s) i = ix ((bI s).take (2 * q + 1)) i by unfold ix; simp [List.getD, h]] at this
          · rw [ix_end _ _ (by rw [HLK.out]; omega)]; omega) q
        obtain ⟨d0, d1⟩ := hdq
        clear e2 e4
        go_wp2_with fail
        go_region
        go_wp2_with fail
        go_roundw
        case rel => exact ⟨2 * q + 1 + 1, g1, cap1, by omega, by go_num, by congr 1; omega, by rw [HTK.out, HPS.out, show (2 * q + 1 + 1 + 1) / 2 = q + 1 by omega]; exact (hO.set q _).drew, hB.grown (only_drawn (only_stored (g := g1) _ rfl _)) hB.size (fun k hk => by injection hk with hk; subst hk; exact hO.lt.1)⟩
        case measure => simp [intOf]; omega
    · obtain rfl : k = s.size := by omega
      have htk : (bI s).take s.size = bI s := List.take_of_length_le (by rw [bI_length]; exact Nat.le_refl _)
      rw [htk] at hO
      have hl := hO.len
      have hdd := ofL_digs (bI s) hU
      have hDr := Dr.of_own hO
      have hnv := nv_ofL (bI s)
      generalize ofL (bI s) = L at hO hl hdd hDr hnv
      rw [← hl]
      have HL := Lib.hid hl; have HNV := Lib.hid hnv
      clear htk hl hnv hO
      go_wp2_with fail
      refine (trim_calls g1 cap1 L wr hDr hdd).mono ?_
      rintro e w' ⟨rfl, rfl, hR⟩
      rw [HNV.out] at hR ⊢
      go_wp2_with fail
      go_ret
      exact ⟨g1, cap1, rfl, hR, hB⟩
end Go.Proofs.YtfoljmpphbhobaaDoor
