/- The walk of the reference's Mul. -/
import Derived.Test.YtfoljmpphbhobaaDoorNum7
namespace Go.Proofs.YtfoljmpphbhobaaDoor
open Go.RowKit Go.Spk
set_option linter.unusedVariables false
theorem prod_bd {x y : Int} (x0 : 0 ≤ x) (x1 : x < 65536) (y0 : 0 ≤ y) (y1 : y < 65536) : 0 ≤ x * y ∧ x * y ≤ 4294836225 := by
  refine ⟨Int.mul_nonneg x0 y0, ?_⟩
  have h1 := Int.mul_le_mul_of_nonneg_right (show x ≤ 65535 by omega) y0
  omega
set_option maxRecDepth 100000 in
set_option maxHeartbeats 2000000 in
theorem mul_calls (a b ga ca gb cb : Nat) (w : World) (hA : Dr w ga ca (dg a)) (hB : Dr w gb cb (dg b)) (sa : (dg a).length ≤ 1000) (sb : (dg b).length ≤ 1000) :
    Calls Tryd.prog 49 #[.slice (some ⟨ga, 0, none⟩) (dg a).length ca, .slice (some ⟨gb, 0, none⟩) (dg b).length cb] w (Gives w (a * b)) := by
  have hda := dg_digs a
  have hdb := dg_digs b
  generalize hla : (dg a).length = la at sa
  generalize hlb : (dg b).length = lb at sb
  have HLA := Lib.hid hla; have HLB := Lib.hid hlb
  clear hla hlb
  obtain ⟨i, f1, f2, f3, f4⟩ := info_of (P := Tryd.prog) (e := 3) (k := .i64) (bytes := 8) (by kernel_rfl)
  obtain ⟨w1, hrun, hO, hg⟩ := run_make_full (P := Tryd.prog) w w.heap.size 56 3 i (.int .i64 0) 1 Tryd.underlying56 f1 f2 f3 .i64 .i64 (la + lb + 1) (by rw [f4]; omega) (by unfold maxLen; omega) (Nat.le_refl _)
  rw [show ((la + lb + 1 : Nat) : Int) = (la : Int) + lb + 1 by omega] at hrun
  have hO' : Own w1 w.heap.size 3 .i64 w.heap.size (la + lb + 1) (la + lb + 1) (List.replicate (la + lb + 1) 0) := by
    rw [show (Value.int .i64 0).cells = #[Value.int .i64 0] from rfl, toList_madeCells_one, Nat.mul_one, ← List.map_replicate] at hO
    exact hO
  have HO := Lib.hid hO'
  have hB1 := (Below.refl w.heap.size w).grown hg (Nat.le_refl _) (fun q hq => by cases hq)
  have HB1 := Lib.hid hB1
  clear hO hO' hg hB1 f1 f2 f3 f4
  go_enter Tryd.func49, Tryd.ntmps49
  go_wp2_with fail
  generalize hN : la + lb + 1 = N at HO
  have HN := Lib.hid hN
  clear hN hrun
  have hz0 : nv (List.replicate N 0) = ((a % 65536 ^ 0 : Nat) : Int) * b := by
    have h : nv (List.replicate N 0) = 0 := by
      unfold nv
      exact pv_zero (m := 0) (Nat.zero_le _) fun i _ _ => by unfold ix; simp [List.getD, List.getElem?_replicate]; split <;> rfl
    rw [h]; simp [Nat.mod_one]
  have hd0 : Digs (List.replicate N 0) := fun i => by
    have : ix (List.replicate N 0) i = 0 := by unfold ix; simp [List.getD, List.getElem?_replicate]; split <;> rfl
    rw [this]; omega
  go_loopw [21] (fun it wr => ∃ (i : Nat) (L : List Int), i ≤ la ∧ it = .int .i64 i ∧ Own wr w.heap.size 3 .i64 w.heap.size N N L ∧ Digs L ∧ nv L = ((a % 65536 ^ i : Nat) : Int) * b ∧ Below w.heap.size w wr) (fun i _ => la - (intOf i).toNat)
  case atStart => exact ⟨0, _, by omega, rfl, HO.out, hd0, hz0, HB1.out⟩
  case round =>
    clear hz0 hd0 HO HB1
    obtain ⟨i, L0, hi, rfl, hO0, hdL0, hv0, hW0⟩ := hrel
    by_cases h1 : i < la
    · have i1 : (i : Int) < la := by omega
      have hx := hda i
      obtain ⟨x0, x1⟩ := hx
      have hv1 : nv L0 + 0 * 65536 ^ (i + 0) = mulR a b i 0 := by rw [mulR_zero, hv0]; simp
      have HV1 := Lib.hid hv1
      clear hv1 hv0
      go_wp2_with fail
      go_loopw [7, 26] (fun c jt wr => ∃ (j : Nat) (cc : Int) (L : List Int), j ≤ lb ∧ jt = .int .i64 j ∧ c = .int .i64 cc ∧ 0 ≤ cc ∧ cc < 65536 ∧ Own wr w.heap.size 3 .i64 w.heap.size N N L ∧ Digs L ∧ nv L + cc * 65536 ^ (i + j) = mulR a b i j ∧ Below w.heap.size w wr) (fun _ j _ => lb - (intOf j).toNat)
      case atStart => exact ⟨0, 0, L0, by omega, rfl, rfl, by omega, by omega, hO0, hdL0, HV1.out, hW0⟩
      case round =>
        clear HV1 hO0 hdL0 hW0
        obtain ⟨j, c, L, hj, rfl, rfl, c0, c1, hO, hdL, hv, hW⟩ := hrel
        have HDL := Lib.hid hdL; have HV := Lib.hid hv
        have hll := hO.len
        have HLL := Lib.hid hll
        clear hdL hv hll
        by_cases h2 : j < lb
        · have j1 : (j : Int) < lb := by omega
          have hy := hdb j
          obtain ⟨y0, y1⟩ := hy
          have ca0 := (hA.on hW).cell i (by rw [HLA.out]; exact h1)
          have cb0 := (hB.on hW).cell j (by rw [HLB.out]; exact h2)
          have hNij : i + j < N := by have := HN.out; omega
          have co := hO.cell (i + j) hNij
          have fo := hO.frozen (i + j)
          have ho := HDL.out (i + j)
          obtain ⟨o0, o1⟩ := ho
          have n1 : (i : Int) + j < N := by omega
          have hst := fun t x hx => mul_step (L := L) (k := i + j) (t := t) (x := x) (by rw [HLL.out]; exact hNij) HV.out hx
          have hst2 := hst (ix (dg a) i * ix (dg b) j) _ rfl
          rw [← mulR_step] at hst2
          have HST := Lib.hid hst2
          clear hst hst2
          obtain ⟨o, hoe⟩ : ∃ o, o = ix L (i + j) := ⟨_, rfl⟩
          obtain ⟨x, hxe⟩ : ∃ x, x = ix (dg a) i := ⟨_, rfl⟩
          obtain ⟨y, hye⟩ : ∃ y, y = ix (dg b) j := ⟨_, rfl⟩
          rw [← hoe] at co o0 o1 HST
          rw [← hxe] at ca0 x0 x1 HST
          rw [← hye] at cb0 y0 y1 HST
          clear hoe hxe hye
          have hm := prod_bd x0 x1 y0 y1
          obtain ⟨m0, m1⟩ := hm
          have k1 : IntKind.i64.wrap (x * y) = x * y := IntWalk.i64_in _ (by omega)
          have k2 : IntKind.i64.wrap (o + x * y) = o + x * y := IntWalk.i64_in _ (by omega)
          have k3 : IntKind.i64.wrap (o + x * y + c) = o + x * y + c := IntWalk.i64_in _ (by omega)
          have nn : 0 ≤ o + x * y + c := by omega
          go_wp2_with fail
          go_quiet (fail)
          go_wp2_with fail
          go_roundw
          case rel =>
            refine ⟨j + 1, (o + x * y + c) / 65536, L.set (i + j) ((o + x * y + c) % 65536), by omega, by go_num, rfl, by omega, by omega, (hO.drewN _).set _ _, digs_set HDL.out (by rw [HLL.out]; exact hNij) (by omega) (by omega), HST.out, ?_⟩
            exact (below_drawnN hW _).grown (only_stored (g := w.heap.size) _ rfl _) hW.size (fun q hq => by injection hq with hq; omega)
          case measure => simp [intOf]; omega
        · obtain rfl : j = lb := by omega
          have hv2 := HV.out
          rw [mulR_end a b i j (by rw [HLB.out]; exact Nat.le_refl _)] at hv2
          have HV2 := Lib.hid hv2
          clear hv2
          go_wp2_with fail
          go_loopw [7, 10] (fun c kt wr => ∃ (k : Nat) (cc : Int) (L : List Int), k ≤ N ∧ kt = .int .i64 k ∧ c = .int .i64 cc ∧ 0 ≤ cc ∧ cc < 65536 ∧ Own wr w.heap.size 3 .i64 w.heap.size N N L ∧ Digs L ∧ nv L + cc * 65536 ^ k = ((a % 65536 ^ (i + 1) : Nat) : Int) * b ∧ Below w.heap.size w wr) (fun _ k _ => N - (intOf k).toNat)
          case atStart => exact ⟨i + j, c, L, by have := HN.out; omega, by go_num, rfl, c0, c1, hO, HDL.out, HV2.out, hW⟩
          case round =>
            clear HV2 HV HDL HLL hO hW c0 c1
            obtain ⟨k, c', L', hk, rfl, rfl, c0, c1, hO, hdL, hv, hW⟩ := hrel
            have HDL := Lib.hid hdL; have HV := Lib.hid hv
            have hll := hO.len
            have HLL := Lib.hid hll
            clear hdL hv hll
            by_cases h3 : 0 < c'
            · have hkN := mul_room HDL.out h3 HV.out
              rw [HLB.out] at hkN
              have hkN2 : k < N := by have := HN.out; omega
              have co := hO.cell k hkN2
              have fo := hO.frozen k
              have ho := HDL.out k
              obtain ⟨o0, o1⟩ := ho
              have hst := mul_step (L := L') (k := k) (t := 0) (x := ix L' k + c') (by rw [HLL.out]; exact hkN2) HV.out (by omega)
              rw [Int.zero_mul, Int.add_zero] at hst
              have HST := Lib.hid hst
              clear hst
              obtain ⟨o, hoe⟩ : ∃ o, o = ix L' k := ⟨_, rfl⟩
              rw [← hoe] at co o0 o1 HST
              clear hoe
              have n1 : (k : Int) < N := by omega
              have nn : 0 ≤ o + c' := by omega
              go_wp2_with fail
              go_roundw
              case rel =>
                refine ⟨k + 1, (o + c') / 65536, L'.set k ((o + c') % 65536), by omega, by go_num, rfl, by omega, by omega, hO.set _ _, digs_set HDL.out (by rw [HLL.out]; exact hkN2) (by omega) (by omega), HST.out, ?_⟩
                exact hW.grown (only_stored (g := w.heap.size) _ rfl _) hW.size (fun q hq => by injection hq with hq; omega)
              case measure => simp [intOf]; omega
            · obtain rfl : c' = 0 := by omega
              have hv3 := HV.out
              rw [Int.zero_mul, Int.add_zero] at hv3
              go_wp2_with fail
              go_roundw
              case rel => exact ⟨i + 1, L', by omega, by go_num, hO, HDL.out, hv3, hW⟩
              case measure => simp [intOf]; omega
    · obtain rfl : i = la := by omega
      have ha : a < 65536 ^ i := by have := lt_pow_len a; rwa [HLA.out] at this
      rw [Nat.mod_eq_of_lt ha] at hv0
      have hts : (nv L0).toNat = a * b := by rw [hv0]; exact_mod_cast Int.toNat_natCast (a * b)
      have HTS := Lib.hid hts
      have hl := hO0.len
      have hDr := Dr.of_own hO0
      have HL := Lib.hid hl
      clear hts hv0 hl ha hda hdb
      go_wp2_with fail
      refine (HL.out ▸ trim_calls w.heap.size N L0 wr hDr hdL0).mono ?_
      rintro e w' ⟨rfl, rfl, hR⟩
      rw [HTS.out] at hR ⊢
      go_wp2_with fail
      go_ret
      exact ⟨w.heap.size, N, rfl, hR, hW0⟩
end Go.Proofs.YtfoljmpphbhobaaDoor
