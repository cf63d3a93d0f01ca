/- The table's All: its leases, ascending. -/
import Derived.Test.YtlkgdnmfgcmldaaDoorLea13
import Derived.Test.YtlkgdnmfgcmldaaDoorLea9
namespace Go.Proofs.YtlkgdnmfgcmldaaDoor
open Go.RowKit Go.Spk Go.Sort
set_option linter.unusedVariables false
theorem own_or (v : Value) : v.ownBlock = none ∨ v.ownBlock ≠ none := Classical.em _
theorem lseInfo : (Tryd.prog.info? 29).map (fun i => (i.zero, i.size, i.bytes)) = some (some (lseV lse0), 5, 56) := by kernel_rfl
set_option maxRecDepth 100000 in
theorem all_calls (g b : Nat) (n tt l e : Int) (L : List Lse) (hA : Asc L) (hL : L.length ≤ 100000) (w : World) (hT : Whole w g 60 (tabC n tt l b e)) (hM : TabAt w b L) :
    Calls Tryd.prog 17 #[.pointer (some ⟨g, 0, none⟩)] w fun e w' => ∃ v, e = .returned v ∧ Lows w' w.heap.size 29 v L ∧ Below w.heap.size w w' := by
  have c3 : w.cell? ⟨g, 3, none⟩ = some (.map (some b)) := by rw [hT.at_]; rfl
  have HL := Lib.hid (And.intro hL hA)
  clear hL hT hA
  go_enter Tryd.func17, Tryd.ntmps17
  go_wp2_with (first
    | (at_range; refine wpList_range_tab _ rfl _ rfl b L rfl hM ?_; intro w0 cnt0 hr0 hg0 hs0)
    | go_in)
  go_frame
  clear c3
  go_loopw [3] (fun v wr => ∃ (V M : List Lse) (cnt : Nat), (V ++ M).Perm L ∧ Lows wr (w.heap.size + 1) 29 v V ∧ RangeAt wr b w.heap.size L M cnt ∧ Below w.heap.size w wr ∧ w.heap.size + 1 ≤ wr.heap.size) (fun _ wr => wr.rangeLeft b w.heap.size)
  case atStart => exact ⟨[], L, cnt0, List.Perm.refl _, Lows.nil _ _ _, hr0, (Below.refl _ _).grown hg0 (Nat.le_refl _) (fun k hk => by cases hk), by omega⟩
  case round =>
    obtain ⟨V, M, cnt, hp, ho, hr, hb, hsz⟩ := hrel
    have HP := Lib.hid hp; have HS := Lib.hid hsz
    clear hp hsz
    go_wp2_with (first
      | (at_next; refine wpList_next_tab _ rfl _ rfl b w.heap.size L M cnt rfl hr ?_ ?_)
      | go_in)
    · intro h0
      subst h0
      have HV := Lib.hid (show V.Perm L by have := HP.out; rwa [List.append_nil] at this)
      have HF := Lib.hid (And.intro ho hb)
      clear ho hr hb
      go_wp2_with fail
      refine (sort_calls (w.heap.size + 1) _ V L HL.out.2 HV.out (by rw [HV.out.length_eq]; exact HL.out.1) _ HF.out.1).mono ?_
      rintro e w' ⟨rfl, h1, g1⟩
      have HG := Lib.hid (And.intro h1 g1)
      clear h1 g1
      go_wp2_with fail
      go_ret
      exact ⟨_, rfl, HG.out.1.less (by omega), HF.out.2.grown HG.out.2 HF.out.2.size (fun k hk => by have := (HF.out.1.lt k hk).1; omega)⟩
    · intro x M' w1 cnt1 hp hr1 hlt hg1 hs1 hen
      have hb1 : Below w.heap.size w w1 := hb.grown hg1 hb.size (fun k hk => by cases hk; exact Nat.le_refl _)
      have ho1 : Lows w1 (w.heap.size + 1) 29 _ V := ho.kept hg1 (.inr (fun e => by have := (ho.lt _ e).1; omega))
      have HP1 := Lib.hid (show ((V ++ [x]) ++ M').Perm L by
        refine List.Perm.trans ?_ HP.out
        rw [List.append_assoc]
        exact List.Perm.append_left V hp.symm)
      have HVL := Lib.hid (show V.length ≤ 100000 by have := HP.out.length_eq; rw [List.length_append] at this; have := HL.out.1; omega)
      have HF := Lib.hid (show cnt1 < cnt ∧ wr.rangeLeft b w.heap.size = cnt ∧ RangeAt w1 b w.heap.size L M' cnt1 ∧ Below w.heap.size w w1 ∧ w.heap.size + 1 ≤ w1.heap.size ∧ Lows w1 (w.heap.size + 1) 29 _ V from ⟨hlt, hr.left_eq, hr1, hb1, by rw [hs1]; exact HS.out, ho1⟩)
      clear hp hb hr hb1 hr1 hlt hg1 hs1 ho ho1
      unfold nameV lseV at hen ⊢
      go_wp2_with (first
        | (at_builtin; refine wpList_pushL rfl _ _ 34 rfl (w.heap.size + 1) 29 (lseV lse0) 56 Tryd.underlying34 lseInfo rfl (by omega) _ V x rfl ((HF.out.2.2.2.2.2.kept (World.grownBy_alloc _ _ none) (own_or _)).kept (World.grownBy_alloc _ _ none) (own_or _)) (w1.heap.size + 1) 1 rfl ?c3 ?c4 ?c5 ?_)
        | fail)
      case c3 => exact Whole.new (by simp) rfl
      case c4 => have := HVL.out; omega
      case c5 => have := HF.out.2.2.2.2.1; simp; omega
      intro v' w2 h2 g2 hloc
      have HZ := Lib.hid (show cnt1 < cnt ∧ wr.rangeLeft b w.heap.size = cnt ∧ RangeAt w2 b w.heap.size L M' cnt1 ∧ Below w.heap.size w w2 ∧ w.heap.size + 1 ≤ w2.heap.size ∧ Lows w2 (w.heap.size + 1) 29 v' (V ++ [x]) from by
        obtain ⟨a1, a2, a3, a4, a5, a6⟩ := HF.out
        have hlt := hM.lt
        refine ⟨a1, a2, ((a3.kept (World.grownBy_alloc _ _ none) (by simp) (by simp)).kept (World.grownBy_alloc _ _ none) (by simp) (by simp)).kept g2 (fun e => ?_) (fun e => ?_), ((a4.alloc a4.size _).alloc (by simp; omega) _).grown g2 (by simp; omega) (fun k hk => ?_), ?_, h2⟩
        · have := (a6.lt _ e.symm).1; omega
        · have := (a6.lt _ e.symm).1; omega
        · have := (a6.lt _ hk).1; omega
        · have := g2.size; simp at this; omega)
      clear h2 g2 hloc hen
      go_wp2_with fail
      go_roundw
      case rel => exact ⟨V ++ [x], M', cnt1, HP1.out, HZ.out.2.2.2.2.2, HZ.out.2.2.1, HZ.out.2.2.2.1, HZ.out.2.2.2.2.1⟩
      case measure => rw [HZ.out.2.1, HZ.out.2.2.1.left_eq]; exact HZ.out.1
end Go.Proofs.YtlkgdnmfgcmldaaDoor
