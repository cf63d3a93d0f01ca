/- The table's Count. -/
import Derived.Test.YtlkgdnmfgcmldaaDoorLea8
import Derived.Test.YtlkgdnmfgcmldaaDoorLea3
import Derived.Outline
import Derived.Handy
import Derived.Lib.Strings
namespace Go.Proofs.YtlkgdnmfgcmldaaDoor
open Go.RowKit Go.Spk
set_option linter.unusedVariables false
theorem str_ne {s s' : ByteArray} (h : ¬ s = s') : (s.toList == s'.toList) = false := by
  rw [beq_eq_false_iff_ne, Lib.toList_data, Lib.toList_data]
  exact fun e => h (str_data e)
theorem cntL_perm {L M : List Lse} (h : L.Perm M) (t : ByteArray) : cntL L t = cntL M t := (h.filter _).length_eq
theorem cntL_cons (x : Lse) (M : List Lse) (t : ByteArray) : cntL (x :: M) t = cntL M t + if x.t = t then 1 else 0 := by
  unfold cntL
  by_cases h : x.t = t <;> simp [h]
theorem cntL_le (L : List Lse) (t : ByteArray) : cntL L t ≤ L.length := List.length_filter_le _ _
set_option maxRecDepth 100000 in
theorem count_calls (g b : Nat) (n tt l e : Int) (L : List Lse) (hL : L.length ≤ 100000) (t : ByteArray) (w : World) (hT : Whole w g 60 (tabC n tt l b e)) (hM : TabAt w b L) :
    Calls Tryd.prog 18 #[.pointer (some ⟨g, 0, none⟩), .string t] w fun e w' => e = .returned (.int .i64 (cntL L t)) ∧ Below w.heap.size w w' := by
  have c3 : w.cell? ⟨g, 3, none⟩ = some (.map (some b)) := by rw [hT.at_]; rfl
  have HL := Lib.hid hL
  clear hL hT
  go_enter Tryd.func18, Tryd.ntmps18
  go_wp2_with (first
    | (at_range; refine wpList_range_tab _ rfl _ rfl b L rfl hM ?_; intro w0 cnt0 hr0 hg0 hs0)
    | go_in)
  go_frame
  clear c3
  go_loopw [5] (fun v wr => ∃ (c : Nat) (M : List Lse) (cnt : Nat), v = .int .i64 c ∧ c + cntL M t = cntL L t ∧ RangeAt wr b w.heap.size L M cnt ∧ Below w.heap.size w wr) (fun _ wr => wr.rangeLeft b w.heap.size)
  case atStart => exact ⟨0, L, cnt0, rfl, by omega, hr0, (Below.refl _ _).grown hg0 (Nat.le_refl _) (fun k hk => by cases hk)⟩
  case round =>
    obtain ⟨c, M, cnt, rfl, hc, hr, hb⟩ := hrel
    go_wp2_with (first
      | (at_next; refine wpList_next_tab _ rfl _ rfl b w.heap.size L M cnt rfl hr ?_ ?_)
      | go_in)
    · intro h0
      subst h0
      have HC := Lib.hid (show c = cntL L t by rw [← hc]; rfl)
      clear hc
      go_wp2
      go_ret
      exact ⟨by rw [HC.out]; rfl, hb⟩
    · intro x M' w1 cnt1 hp hr1 hlt hg1 hs1 hen
      have hb1 : Below w.heap.size w w1 := hb.grown hg1 hb.size (fun k hk => by cases hk; exact Nat.le_refl _)
      have hcb : (c : Int) ≤ 100000 := by have := cntL_le L t; have := HL.out; omega
      have HP := Lib.hid (show c + (cntL M' t + if x.t = t then 1 else 0) = cntL L t by rw [← hc, cntL_perm hp t, cntL_cons])
      have HF := Lib.hid (And.intro hlt (And.intro hr.left_eq hr1))
      have HB := Lib.hid hb1
      clear hp hc hb hr hb1 hr1 hlt hg1 hs1
      unfold nameV lseV at hen ⊢
      by_cases hx : x.t = t
      · rw [if_pos hx] at HP
        subst hx
        go_wp2
        go_roundw
        case rel => exact ⟨c + 1, M', cnt1, by go_num, by have := HP.out; omega, HF.out.2.2.kept (World.grownBy_alloc _ _ none) (by simp) (by simp), HB.out.alloc HB.out.size _⟩
        case measure =>
          rw [HF.out.2.1, (HF.out.2.2.kept (World.grownBy_alloc _ _ none) (by simp) (by simp)).left_eq]; exact HF.out.1
      · rw [if_neg hx] at HP
        have hne : (x.t.toList == t.toList) = false := str_ne hx
        clear hx
        go_wp2
        go_roundw
        case rel => exact ⟨c, M', cnt1, rfl, by have := HP.out; omega, HF.out.2.2.kept (World.grownBy_alloc _ _ none) (by simp) (by simp), HB.out.alloc HB.out.size _⟩
        case measure =>
          rw [HF.out.2.1, (HF.out.2.2.kept (World.grownBy_alloc _ _ none) (by simp) (by simp)).left_eq]; exact HF.out.1
end Go.Proofs.YtlkgdnmfgcmldaaDoor
