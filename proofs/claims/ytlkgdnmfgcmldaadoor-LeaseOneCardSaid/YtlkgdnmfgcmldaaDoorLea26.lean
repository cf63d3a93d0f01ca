/- The reference's table: At, Count. -/
import Derived.Test.YtlkgdnmfgcmldaaDoorLea25
import Derived.Deep.LoopGhost
namespace Go.Proofs.YtlkgdnmfgcmldaaDoor
open Go.RowKit Go.Spk
set_option linter.unusedVariables false
theorem Lows.lens {w : World} {B : Nat} {T : TypeId} {v : Value} {L : List Lse} (h : Lows w B T v L) : ∃ A c, v = .slice A L.length c := by
  rcases h.shape with ⟨h1, h2⟩ | ⟨g', cap, cur, h1, _⟩
  · exact ⟨none, 0, by rw [h1, h2]; rfl⟩
  · exact ⟨_, _, h1⟩
/-- A slice below stays as it was. -/
theorem Lows.rest {w w' : World} {B : Nat} {T : TypeId} {v : Value} {L : List Lse} (h : Lows w B T v L) (hb : Below w.heap.size w w') : Lows w' B T v L := h.below hb (fun g hg => (h.lt g hg).2)
set_option maxRecDepth 100000 in
set_option maxHeartbeats 1000000 in
theorem at_calls (n tt l e : Int) (B : Nat) (v : Value) (L : List Lse) (hL : L.length ≤ 100000) (t a : ByteArray) (w : World) (h : Lows w B 71 v L) :
    Calls Tryd.prog 28 #[refV n tt l e v, .string t, .string a] w fun e w' => e = .returned (.int .i64 (posL L t a)) ∧ Below w.heap.size w w' := by
  obtain ⟨A, c, rfl⟩ := h.lens
  have hm : (L.length : Int) ≤ 100000 := by omega
  obtain ⟨r, hr⟩ : ∃ r, r = posL L t a := ⟨_, rfl⟩
  have HR := Lib.hid hr
  have H := Lib.hid h
  rw [← hr]
  clear hr h hL
  unfold refV
  go_enter Tryd.func28, Tryd.ntmps28
  go_wp2_with fail
  go_loopg [12] L.length (fun gq i wr => ∃ k : Nat, gq + k = L.length ∧ i = .int .i64 k ∧ (∀ (j : Nat) (z : Lse), j < k → L[j]? = some z → notN t a z = true) ∧ Below w.heap.size w wr)
  case atStart => exact ⟨0, rfl, rfl, fun j z hj => by omega, by go_grown⟩
  case round =>
    obtain ⟨k, hgk, rfl, hall, hb⟩ := hrel
    have HA := Lib.hid (And.intro hall (And.intro hb hgk))
    clear hall hb
    by_cases hlt : k < L.length
    · obtain ⟨y, hy⟩ : ∃ y, L[k]? = some y := ⟨L[k], List.getElem?_eq_getElem hlt⟩
      obtain ⟨gv, cap2, hv, _, _, hcell⟩ := (H.out.rest HA.out.2.1).at_ hy
      injection hv with hv1 hv2 hv3
      subst hv1; subst hv3
      have f0 : wr.cell? ⟨gv, k * 5, none⟩ = some (.string y.t) := (hcell 0 _ rfl).1
      have f1 : wr.cell? ⟨gv, k * 5 + 1, none⟩ = some (.string y.a) := (hcell 1 _ rfl).1
      have f2 : wr.cell? ⟨gv, k * 5 + 2, none⟩ = some (.int .i64 y.o) := (hcell 2 _ rfl).1
      have f3 : wr.cell? ⟨gv, k * 5 + 3, none⟩ = some (.int .i64 y.e) := (hcell 3 _ rfl).1
      have f4 : wr.cell? ⟨gv, k * 5 + 4, none⟩ = some (.int .i64 y.l) := (hcell 4 _ rfl).1
      have HY := Lib.hid hy
      have hqi : (k : Int) < L.length := by omega
      clear hy hcell hv2 hgk
      by_cases ht : y.t = t
      · have e1 : (y.t.toList == t.toList) = true := by rw [ht]; simp
        by_cases ha : y.a = a
        · have e2 : (y.a.toList == a.toList) = true := by rw [ha]; simp
          have hp := posL_yes HY.out (by unfold notN; simp [ht, ha]) HA.out.1
          obtain rfl : r = (k : Int) := HR.out.trans hp.1
          clear hp ht ha
          go_wp2_with fail
          go_ret
          exact ⟨rfl, HA.out.2.1.alloc HA.out.2.1.size _⟩
        · have e2 : (y.a.toList == a.toList) = false := str_ne ha
          have HN := Lib.hid (show notN t a y = true by unfold notN; simp [ha])
          clear ht ha
          go_wp2_with fail
          go_roundg (L.length - (k + 1))
          case measure => have := HA.out.2.2; omega
          case rel => exact ⟨k + 1, by omega, by go_num, fun j z hj hz => by
            rcases Nat.lt_succ_iff_lt_or_eq.1 hj with h | rfl
            · exact HA.out.1 j z h hz
            · obtain rfl := Option.some.inj (HY.out.symm.trans hz); exact HN.out, HA.out.2.1.alloc HA.out.2.1.size _⟩
      · have e1 : (y.t.toList == t.toList) = false := str_ne ht
        have HN := Lib.hid (show notN t a y = true by unfold notN; simp [ht])
        clear ht
        go_wp2_with fail
        go_roundg (L.length - (k + 1))
        case measure => have := HA.out.2.2; omega
        case rel => exact ⟨k + 1, by omega, by go_num, fun j z hj hz => by
          rcases Nat.lt_succ_iff_lt_or_eq.1 hj with h | rfl
          · exact HA.out.1 j z h hz
          · obtain rfl := Option.some.inj (HY.out.symm.trans hz); exact HN.out, HA.out.2.1.alloc HA.out.2.1.size _⟩
    · have hp := posL_no (L := L) (t := t) (a := a) (fun j z hz => HA.out.1 j z (by have := (List.getElem?_eq_some_iff.1 hz).1; omega) hz)
      obtain rfl : r = -1 := HR.out.trans hp.1
      have hi : ¬ (k : Int) < L.length := by omega
      clear hp hgk
      go_wp2_with fail
      go_ret
      exact ⟨rfl, HA.out.2.1⟩
theorem cntL_take_yes {L : List Lse} {k : Nat} {y : Lse} {t : ByteArray} (hy : L[k]? = some y) (ht : y.t = t) : cntL (L.take (k + 1)) t = cntL (L.take k) t + 1 := by
  unfold cntL
  rw [take_succ_of hy, List.filter_append]
  simp [ht]
theorem cntL_take_no {L : List Lse} {k : Nat} {y : Lse} {t : ByteArray} (hy : L[k]? = some y) (ht : ¬ y.t = t) : cntL (L.take (k + 1)) t = cntL (L.take k) t := by
  unfold cntL
  rw [take_succ_of hy, List.filter_append]
  simp [ht]
set_option maxRecDepth 100000 in
set_option maxHeartbeats 1000000 in
theorem rcount_calls (n tt l e : Int) (B : Nat) (v : Value) (L : List Lse) (hL : L.length ≤ 100000) (t : ByteArray) (w : World) (h : Lows w B 71 v L) :
    Calls Tryd.prog 19 #[refV n tt l e v, .string t] w fun e w' => e = .returned (.int .i64 (cntL L t)) ∧ Below w.heap.size w w' := by
  obtain ⟨A, c, rfl⟩ := h.lens
  have hm : (L.length : Int) ≤ 100000 := by omega
  have H := Lib.hid h
  have HL := Lib.hid hL
  clear h hL
  unfold refV
  go_enter Tryd.func19, Tryd.ntmps19
  go_wp2_with fail
  go_loopg [5, 11] L.length (fun gq u i wr => ∃ k : Nat, gq + k = L.length ∧ i = .int .i64 k ∧ u = .int .i64 (cntL (L.take k) t) ∧ Below w.heap.size w wr)
  case atStart => exact ⟨0, rfl, rfl, rfl, by go_grown⟩
  case round =>
    obtain ⟨k, hgk, rfl, rfl, hb⟩ := hrel
    have HA := Lib.hid (And.intro hb hgk)
    clear hb
    by_cases hlt : k < L.length
    · obtain ⟨y, hy⟩ : ∃ y, L[k]? = some y := ⟨L[k], List.getElem?_eq_getElem hlt⟩
      obtain ⟨gv, cap2, hv, _, _, hcell⟩ := (H.out.rest HA.out.1).at_ hy
      injection hv with hv1 hv2 hv3
      subst hv1; subst hv3
      have f0 : wr.cell? ⟨gv, k * 5, none⟩ = some (.string y.t) := (hcell 0 _ rfl).1
      have f1 : wr.cell? ⟨gv, k * 5 + 1, none⟩ = some (.string y.a) := (hcell 1 _ rfl).1
      have f2 : wr.cell? ⟨gv, k * 5 + 2, none⟩ = some (.int .i64 y.o) := (hcell 2 _ rfl).1
      have f3 : wr.cell? ⟨gv, k * 5 + 3, none⟩ = some (.int .i64 y.e) := (hcell 3 _ rfl).1
      have f4 : wr.cell? ⟨gv, k * 5 + 4, none⟩ = some (.int .i64 y.l) := (hcell 4 _ rfl).1
      have HY := Lib.hid hy
      have hqi : (k : Int) < L.length := by omega
      have hcb : (cntL (L.take k) t : Int) ≤ 100000 := by have := cntL_le (L.take k) t; rw [List.length_take] at this; have := HL.out; omega
      clear hy hcell hv2 hgk
      by_cases ht : y.t = t
      · have e1 : (y.t.toList == t.toList) = true := by rw [ht]; simp
        have HC := Lib.hid (cntL_take_yes HY.out ht)
        clear ht
        go_wp2_with fail
        go_roundg (L.length - (k + 1))
        case measure => have := HA.out.2; omega
        case rel => exact ⟨k + 1, by omega, by go_num, by rw [HC.out]; go_num, HA.out.1.alloc HA.out.1.size _⟩
      · have e1 : (y.t.toList == t.toList) = false := str_ne ht
        have HC := Lib.hid (cntL_take_no HY.out ht)
        clear ht
        go_wp2_with fail
        go_roundg (L.length - (k + 1))
        case measure => have := HA.out.2; omega
        case rel => exact ⟨k + 1, by omega, by go_num, by rw [HC.out], HA.out.1.alloc HA.out.1.size _⟩
    · have hkl : k = L.length := by omega
      subst hkl
      have HC := Lib.hid (show cntL (L.take L.length) t = cntL L t by rw [List.take_length])
      clear hgk
      go_wp2_with fail
      go_ret
      exact ⟨by rw [HC.out]; rfl, HA.out.1⟩
end Go.Proofs.YtlkgdnmfgcmldaaDoor
