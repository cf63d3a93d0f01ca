/- Two lists of leases against each other: the law's same. -/
import Derived.Test.YtlkgdnmfgcmldaaDoorLea26
import Derived.Deep.QuietTactic
import Derived.BigQuiet
namespace Go.Proofs.YtlkgdnmfgcmldaaDoor
open Go.RowKit Go.Spk
set_option linter.unusedVariables false
theorem neq_rlease (x y : Lse) (w : World) : (binOp .neq 71 (.agg (lseC x).toArray) (.agg (lseC y).toArray)).run Tryd.prog w = .ok (.bool (!eqL x y)) w := by
  have u3 := Tryd.underlying3
  have a3 := Tryd.isAgg3
  have z3 := Tryd.sizeOf3
  have u9 := Tryd.underlying9
  have a9 := Tryd.isAgg9
  have z9 := Tryd.sizeOf9
  have hS : Tryd.prog.underlying 71 = some (.struct (Tryd.prog.fieldsOf 71)) := by kernel_rfl
  have hp : Tryd.prog.stoodInHeld 71 = false := by kernel_rfl
  simp only [lseC]
  rw [run_neq_struct, show (10000 : Nat) = 9999 + 1 from rfl, run_equalIn_agg w 9999 71 _ _ hS hp]
  simp only [Program.fieldsOf, Tryd.underlying71]
  go_simp
  unfold eqL
  simp only [tl_eq]
  by_cases h1 : x.t = y.t <;> by_cases h2 : x.a = y.a <;> by_cases h3 : x.o = y.o <;> by_cases h4 : x.e = y.e <;> by_cases h5 : x.l = y.l <;> simp [h1, h2, h3, h4, h5]
/-- Are two lists the same? -/
noncomputable def sameL (L M : List Lse) : Bool := @decide (L = M) (Classical.propDecidable _)
theorem sameL_len {L M : List Lse} (h : ¬ L.length = M.length) : sameL L M = false := by
  unfold sameL; exact @decide_eq_false _ (Classical.propDecidable _) (fun e => h (by rw [e]))
theorem sameL_at {L M : List Lse} {k : Nat} {x y : Lse} (hx : L[k]? = some x) (hy : M[k]? = some y) (h : eqL x y = false) : sameL L M = false := by
  unfold sameL
  refine @decide_eq_false _ (Classical.propDecidable _) (fun e => ?_)
  subst e
  rw [hx] at hy
  injection hy with hy
  rw [hy, eqL_self] at h
  cases h
theorem sameL_take {L M : List Lse} {k : Nat} {x y : Lse} (ht : L.take k = M.take k) (hx : L[k]? = some x) (hy : M[k]? = some y) (h : eqL x y = true) : L.take (k + 1) = M.take (k + 1) := by
  rw [take_succ_of hx, take_succ_of hy, ht, (eqL_iff x y).1 h]
set_option maxRecDepth 100000 in
set_option maxHeartbeats 2000000 in
theorem same_calls (B1 B2 : Nat) (v1 v2 : Value) (L1 L2 : List Lse) (hl1 : L1.length ≤ 100000) (hl2 : L2.length ≤ 100000) (w : World) (h1 : Lows w B1 29 v1 L1) (h2 : Lows w B2 71 v2 L2) :
    Calls Tryd.prog 16 #[v1, v2] w fun e w' => e = .returned (.bool (sameL L1 L2)) ∧ Below w.heap.size w w' := by
  obtain ⟨A1, c1, rfl⟩ := h1.lens
  obtain ⟨A2, c2, rfl⟩ := h2.lens
  have H1 := Lib.hid h1
  have H2 := Lib.hid h2
  obtain ⟨r, hr⟩ : ∃ r, r = sameL L1 L2 := ⟨_, rfl⟩
  have HR := Lib.hid hr
  rw [← hr]
  clear h1 h2 hr
  by_cases hlen : L1.length = L2.length
  · obtain ⟨n, hn⟩ : ∃ n, L2.length = n := ⟨_, rfl⟩
    rw [hn] at hlen hl2 H2
    rw [hlen] at H1
    rw [hn, hlen]
    have HN := Lib.hid (And.intro hlen hn)
    have hm : (n : Int) ≤ 100000 := by omega
    clear hlen hn hl1 hl2
    go_enter Tryd.func16, Tryd.ntmps16
    go_wp2_with fail
    go_loopg [13] n (fun gq i wr => ∃ k : Nat, gq + k = n ∧ i = .int .i64 k ∧ L1.take k = L2.take k ∧ Below w.heap.size w wr)
    case atStart => exact ⟨0, rfl, rfl, rfl, by go_grown⟩
    case round =>
      obtain ⟨k, hgk, rfl, ht, hb⟩ := hrel
      have HA := Lib.hid (And.intro ht (And.intro hb hgk))
      clear ht hb
      by_cases hlt : k < n
      · obtain ⟨x, hx⟩ : ∃ x, L1[k]? = some x := ⟨L1[k]'(by have := HN.out.1; omega), List.getElem?_eq_getElem _⟩
        obtain ⟨y, hy⟩ : ∃ y, L2[k]? = some y := ⟨L2[k]'(by have := HN.out.2; omega), List.getElem?_eq_getElem _⟩
        obtain ⟨g1, cap1, hv, _, _, hcell⟩ := (H1.out.rest HA.out.2.1).at_ hx
        injection hv with hv1 hv2 hv3
        subst hv1; subst hv3
        have f0 : wr.cell? ⟨g1, k * 5, none⟩ = some (.string x.t) := (hcell 0 _ rfl).1
        have f1 : wr.cell? ⟨g1, k * 5 + 1, none⟩ = some (.string x.a) := (hcell 1 _ rfl).1
        have f2 : wr.cell? ⟨g1, k * 5 + 2, none⟩ = some (.int .i64 x.o) := (hcell 2 _ rfl).1
        have f3 : wr.cell? ⟨g1, k * 5 + 3, none⟩ = some (.int .i64 x.e) := (hcell 3 _ rfl).1
        have f4 : wr.cell? ⟨g1, k * 5 + 4, none⟩ = some (.int .i64 x.l) := (hcell 4 _ rfl).1
        clear hcell hv2
        obtain ⟨g2, cap2, hv, _, _, hcell⟩ := (H2.out.rest HA.out.2.1).at_ hy
        injection hv with hv1 hv2 hv3
        subst hv1; subst hv3
        have j0 : wr.cell? ⟨g2, k * 5, none⟩ = some (.string y.t) := (hcell 0 _ rfl).1
        have j1 : wr.cell? ⟨g2, k * 5 + 1, none⟩ = some (.string y.a) := (hcell 1 _ rfl).1
        have j2 : wr.cell? ⟨g2, k * 5 + 2, none⟩ = some (.int .i64 y.o) := (hcell 2 _ rfl).1
        have j3 : wr.cell? ⟨g2, k * 5 + 3, none⟩ = some (.int .i64 y.e) := (hcell 3 _ rfl).1
        have j4 : wr.cell? ⟨g2, k * 5 + 4, none⟩ = some (.int .i64 y.l) := (hcell 4 _ rfl).1
        have HX := Lib.hid (And.intro hx hy)
        have hqi : (k : Int) < n := by omega
        clear hcell hv2 hgk hx hy
        have hq := neq_rlease x y
        have hgd := guard_rlease
        simp only [lseC] at hq
        cases hE : eqL x y with
        | true =>
          rw [hE] at hq
          have HE := Lib.hid hE
          clear hE
          go_upto_region 6 with fail
          go_quiet (fail)
          go_wp2_with fail
          go_roundg (n - (k + 1))
          case measure => have := HA.out.2.2; omega
          case rel => exact ⟨k + 1, by have := HA.out.2.2; omega, by go_num, sameL_take HA.out.1 HX.out.1 HX.out.2 HE.out, below_drawnN HA.out.2.1 _⟩
        | false =>
          rw [hE] at hq
          obtain rfl : r = false := HR.out.trans (sameL_at HX.out.1 HX.out.2 hE)
          clear hE
          go_upto_region 6 with fail
          go_quiet (fail)
          go_wp2_with fail
          go_ret
          exact ⟨rfl, below_drawnN HA.out.2.1 _⟩
      · have hkn : k = n := by omega
        subst hkn
        obtain rfl : r = true := HR.out.trans (by unfold sameL; exact @decide_eq_true _ (Classical.propDecidable _) (by have h := HA.out.1; rwa [List.take_of_length_le (by have := HN.out.1; omega), List.take_of_length_le (by have := HN.out.2; omega)] at h))
        clear hgk
        go_wp2_with fail
        go_ret
        exact ⟨rfl, HA.out.2.1⟩
  · obtain rfl : r = false := HR.out.trans (sameL_len hlen)
    have hb : ((L1.length : Int) != (L2.length : Int)) = true := by simp; omega
    clear hlen
    go_enter Tryd.func16, Tryd.ntmps16
    go_wp2_with fail
    go_ret
    exact ⟨rfl, Below.refl _ _⟩
end Go.Proofs.YtlkgdnmfgcmldaaDoor
