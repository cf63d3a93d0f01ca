/- packet's line: lock; Writer.Seal, Reader.Open. -/
import Derived.Test.YtfoljmpphbhobaaGreatDoorPackL
import Derived.Test.YtfoljmpphbhobaaGreatDoorPack0
import Derived.Deep.RegionHeld3
import Derived.Deep.DrawnRows
namespace Go.Spk
open Go.RowKit
theorem Whole.splice {w : World} {g : Nat} {t : TypeId} : ∀ (vs pre old post : List Value), old.length = vs.length → Whole w g t (pre ++ old ++ post).toArray → Whole (w.setCells g pre.length vs) g t (pre ++ vs ++ post).toArray := by
  intro vs
  induction vs generalizing w with
  | nil =>
    intro pre old post hl h
    obtain rfl : old = [] := by simpa using hl
    exact h
  | cons v r ih =>
    intro pre old post hl h
    cases old with
    | nil => simp at hl
    | cons x old =>
      have h1 : Whole (w.setCell ⟨g, pre.length, none⟩ v) g t ((pre ++ [v]) ++ old ++ post).toArray := by
        have h2 := h.stored pre.length v
        have e : (pre ++ x :: old ++ post).toArray.setIfInBounds pre.length v = ((pre ++ [v]) ++ old ++ post).toArray := by
          simp
        rwa [e] at h2
      have h3 := ih (pre ++ [v]) old post (by simpa using hl) h1
      rw [List.length_append, List.length_singleton] at h3
      rw [World.setCells]
      simpa using h3
theorem only_cells (g : Nat) : ∀ (vs : List Value) (o : Nat) (w : World), w.grownBy (w.setCells g o vs) (some g)
  | [], o, w => World.grownBy.refl w _
  | v :: r, o, w => by
    rw [World.setCells]
    exact only_trans (only_stored _ rfl _) (only_cells g r (o + 1) _)
theorem rangeAt_only {w w' : World} {b o : Nat} {cs : List Value} {r : Option Nat} (h : w.rangeAt b o cs) (hg : w.grownBy w' r) (hb : b < w.heap.size) (hne : some b ≠ r) : w'.rangeAt b o cs := fun j v hv =>
  (World.cell?_of_block (hg.block b hb hne)).trans (h j v hv)
end Go.Spk
namespace Go.Proofs.YtfoljmpphbhobaaGreatDoor
open Go.RowKit Go.Spk
set_option linter.unusedVariables false
attribute [local go_sem ↓] Go.wp_at_zero Go.wp_at_succ
theorem line_list2 (n : Nat) (b : Bool) (ks : List Int) (rest : Array Value) : lineRow n b ks ++ rest = ([Value.int .u64 n, Value.bool b] ++ ks.map (Value.int .u8) ++ rest.toList).toArray := by
  simp [lineRow, rowI]
theorem line_cells {w : World} {g : Nat} {T : TypeId} {n : Nat} {b : Bool} {ks : List Int} {rest : Array Value} (h : Whole w g T (lineRow n b ks ++ rest)) :
    w.cell? ⟨g, 0, none⟩ = some (.int .u64 n) ∧ w.cell? ⟨g, 1, none⟩ = some (.bool b) := by
  rw [h.at_, h.at_, line_list2]
  exact ⟨rfl, rfl⟩
theorem line_key {w : World} {g : Nat} {T : TypeId} {n : Nat} {b : Bool} {ks : List Int} {rest : Array Value} (h : Whole w g T (lineRow n b ks ++ rest)) : w.rangeAt g 2 (ks.map (Value.int .u8)) := by
  intro j v hv
  have hj : j < ks.length := by
    have := (List.getElem?_eq_some_iff.1 hv).1
    simpa using this
  rw [h.at_, line_list2, List.getElem?_toArray, List.append_assoc, List.getElem?_append_right (by simp), List.getElem?_append_left (by simp; omega)]
  simpa using hv
theorem line_there {w : World} {g : Nat} {T : TypeId} {n : Nat} {b : Bool} {ks : List Int} {rest : Array Value} (h : Whole w g T (lineRow n b ks ++ rest)) (hk : ks.length = 32) : w.there g 2 32 := fun j hj =>
  ⟨(line_key h).isSome j (by simpa [hk] using hj), h.free _⟩
theorem line_locked {w : World} {g : Nat} {T : TypeId} {n : Nat} {b : Bool} {ks nk : List Int} {rest : Array Value} (h : Whole w g T (lineRow n b ks ++ rest)) (hk : ks.length = 32) (hn : nk.length = 32) :
    Whole ((w.setCell ⟨g, 1, none⟩ (.bool true)).setCells g 2 (nk.map (Value.int .u8))) g T (lineRow n true nk ++ rest) ∧ w.grownBy ((w.setCell ⟨g, 1, none⟩ (.bool true)).setCells g 2 (nk.map (Value.int .u8))) (some g) := by
  refine ⟨?_, only_trans (only_stored _ rfl _) (only_cells _ _ _ _)⟩
  have h1 := h.stored 1 (.bool true)
  have e : (lineRow n b ks ++ rest).setIfInBounds 1 (.bool true) = lineRow n true ks ++ rest := by
    rw [line_list2, line_list2]; simp
  rw [e, line_list2] at h1
  have h2 := h1.splice (nk.map (Value.int .u8)) [Value.int .u64 n, Value.bool true] (ks.map (Value.int .u8)) rest.toList (by simp [hk, hn])
  rw [line_list2]
  exact h2
set_option maxRecDepth 100000 in
set_option maxHeartbeats 2000000 in
theorem lock_calls (g n : Nat) (b : Bool) (ks nk : List Int) (T : TypeId) (rest : Array Value) (hk : ks.length = 32) (hn : nk.length = 32) (w : World) (h : Whole w g T (lineRow n b ks ++ rest)) :
    Calls Tryz.prog 20 #[.pointer (some ⟨g, 0, none⟩), .agg (rowI .u8 nk)] w fun e w' => e = .returned (.tuple #[]) ∧ Whole w' g T (lineRow n true nk ++ rest) ∧ w.grownBy w' (some g) := by
  have hu := Tryz.underlying25
  have hi : (Tryz.prog.info? 25).map (·.size) = some (nk.map (Value.int .u8)).length := by rw [List.length_map, hn]; kernel_rfl
  have hl : (nk.map (Value.int .u8)).length = 32 := by simpa using hn
  have hone : ∀ v ∈ nk.map (Value.int .u8), v.oneCell' = true := by
    intro v hv
    obtain ⟨z, _, rfl⟩ := List.mem_map.1 hv
    rfl
  have h1 : Whole (w.alloc (.cells (rowI .u8 nk) 25)) g T (lineRow n b ks ++ rest) := h.alloc _
  have hbox : (w.alloc (.cells (rowI .u8 nk) 25)).rangeAt w.heap.size 0 (nk.map (Value.int .u8)) := by
    intro j v hv
    rw [Nat.zero_add, (Whole.made w 25 (rowI .u8 nk)).at_]
    simpa [rowI] using hv
  have c1 := (line_cells h1).2
  have f1 := h1.free 1
  have ht := line_there h1 hk
  have hfin := line_locked (h1.drew) hk hn
  have HF := Lib.hid (And.intro hfin.1 (only_trans (only_drawn (World.grownBy_alloc w (.cells (rowI .u8 nk) 25) (some g))) hfin.2))
  have hS : ∀ W : World, (W.rangeAt w.heap.size 0 (nk.map (Value.int .u8)) ∧ W.there g 2 32) → ((W.setCell ⟨g, 1, none⟩ (.bool true)).drew.rangeAt w.heap.size 0 (nk.map (Value.int .u8)) ∧ (W.setCell ⟨g, 1, none⟩ (.bool true)).drew.there g 2 32) ∧
      ((W.setCell ⟨g, 1, none⟩ (.bool true)).drew.setCells g 2 (nk.map (Value.int .u8))).rangeAt w.heap.size 0 (nk.map (Value.int .u8)) ∧ ((W.setCell ⟨g, 1, none⟩ (.bool true)).drew.setCells g 2 (nk.map (Value.int .u8))).there g 2 32 := by
    intro W ⟨q1, q2⟩
    have hne : w.heap.size ≠ g := Nat.ne_of_gt h.inside
    have r1 : (W.setCell ⟨g, 1, none⟩ (.bool true)).drew.rangeAt w.heap.size 0 (nk.map (Value.int .u8)) := World.rangeAt_setCells_apart q1 g 1 [.bool true] (.inl hne)
    have r2 : (W.setCell ⟨g, 1, none⟩ (.bool true)).drew.there g 2 32 := World.there_setCells q2 g 1 [.bool true]
    exact ⟨⟨r1, r2⟩, World.rangeAt_setCells_apart r1 g 2 _ (.inl hne), World.there_setCells r2 g 2 _⟩
  have hS0 := hS _ ⟨hbox, ht⟩
  clear hS
  have HS0 := Lib.hid (show _ ∧ _ from ⟨(⟨hbox, ht⟩ : _ ∧ _), hS0⟩)
  clear hS0
  clear hfin h1 h hn hk
  go_enter Tryz.func20, Tryz.ntmps20
  go_wp2_with fail
  go_region_held3 (fun w' => w'.rangeAt w.heap.size 0 (nk.map (Value.int .u8)) ∧ w'.there g 2 32) (first | exact HS0.out.1 | exact HS0.out.2.1 | exact HS0.out.2.2) (fail)
  all_goals
    go_wp2_with fail
    go_end0
    exact ⟨rfl, HF.out⟩
set_option maxRecDepth 100000 in
set_option maxHeartbeats 2000000 in
theorem wseal_calls (g n : Nat) (b : Bool) (ks nk : List Int) (T : TypeId) (rest : Array Value) (hk : ks.length = 32) (hn : nk.length = 32) (w : World) (h : Whole w g T (lineRow n b ks ++ rest)) :
    Calls Tryz.prog 8 #[.pointer (some ⟨g, 0, none⟩), .agg (rowI .u8 nk)] w fun e w' => e = .returned (.tuple #[]) ∧ Whole w' g T (lineRow n true nk ++ rest) ∧ w.grownBy w' (some g) := by
  have hu := Tryz.underlying25
  have hi : (Tryz.prog.info? 25).map (·.size) = some (nk.map (Value.int .u8)).length := by rw [List.length_map, hn]; kernel_rfl
  have hl : (nk.map (Value.int .u8)).length = 32 := by simpa using hn
  have hbox : (w.alloc (.cells (rowI .u8 nk) 25)).rangeAt w.heap.size 0 (nk.map (Value.int .u8)) := by
    intro j v hv
    rw [Nat.zero_add, (Whole.made w 25 (rowI .u8 nk)).at_]
    simpa [rowI] using hv
  have HB := Lib.hid (show (w.alloc (.cells (rowI .u8 nk) 25)).drew.rangeAt w.heap.size 0 (nk.map (Value.int .u8)) from hbox)
  have HW := Lib.hid (show Whole (w.alloc (.cells (rowI .u8 nk) 25)).drew g T (lineRow n b ks ++ rest) from h.alloc _)
  have HG := Lib.hid (show w.grownBy (w.alloc (.cells (rowI .u8 nk) 25)).drew (some g) from only_drawn (World.grownBy_alloc w _ _))
  have HLT := Lib.hid h.inside
  have HK := Lib.hid hk; have HN := Lib.hid hn
  clear hbox h hk hn
  go_enter Tryz.func8, Tryz.ntmps8
  go_wp2_with fail
  go_region_held3 (fun w' => w'.rangeAt w.heap.size 0 (nk.map (Value.int .u8))) (first | exact HB.out | exact HB1.out) ((go_at_call 20; refine (lock_calls g n b ks nk T rest HK.out HN.out _ HW.out).mono ?_; rintro e w1 ⟨rfl, h1, g1⟩; have HB1 := Lib.hid (rangeAt_only HB.out g1 (by simp) (ne_some (Nat.ne_of_gt HLT.out))); have HF := Lib.hid (And.intro h1 (only_trans HG.out g1)); clear h1 g1))
  all_goals
    go_wp2_with fail
    go_end0
    exact ⟨rfl, HF.out⟩
set_option maxRecDepth 100000 in
set_option maxHeartbeats 2000000 in
theorem ropenR_calls (g n : Nat) (b : Bool) (ks nk : List Int) (T : TypeId) (rest : Array Value) (hk : ks.length = 32) (hn : nk.length = 32) (w : World) (h : Whole w g T (lineRow n b ks ++ rest)) :
    Calls Tryz.prog 14 #[.pointer (some ⟨g, 0, none⟩), .agg (rowI .u8 nk)] w fun e w' => e = .returned (.tuple #[]) ∧ Whole w' g T (lineRow n true nk ++ rest) ∧ w.grownBy w' (some g) := by
  have hu := Tryz.underlying25
  have hi : (Tryz.prog.info? 25).map (·.size) = some (nk.map (Value.int .u8)).length := by rw [List.length_map, hn]; kernel_rfl
  have hl : (nk.map (Value.int .u8)).length = 32 := by simpa using hn
  have hbox : (w.alloc (.cells (rowI .u8 nk) 25)).rangeAt w.heap.size 0 (nk.map (Value.int .u8)) := by
    intro j v hv
    rw [Nat.zero_add, (Whole.made w 25 (rowI .u8 nk)).at_]
    simpa [rowI] using hv
  have HB := Lib.hid (show (w.alloc (.cells (rowI .u8 nk) 25)).drew.rangeAt w.heap.size 0 (nk.map (Value.int .u8)) from hbox)
  have HW := Lib.hid (show Whole (w.alloc (.cells (rowI .u8 nk) 25)).drew g T (lineRow n b ks ++ rest) from h.alloc _)
  have HG := Lib.hid (show w.grownBy (w.alloc (.cells (rowI .u8 nk) 25)).drew (some g) from only_drawn (World.grownBy_alloc w _ _))
  have HLT := Lib.hid h.inside
  have HK := Lib.hid hk; have HN := Lib.hid hn
  clear hbox h hk hn
  go_enter Tryz.func14, Tryz.ntmps14
  go_wp2_with fail
  go_region_held3 (fun w' => w'.rangeAt w.heap.size 0 (nk.map (Value.int .u8))) (first | exact HB.out | exact HB1.out) ((go_at_call 20; refine (lock_calls g n b ks nk T rest HK.out HN.out _ HW.out).mono ?_; rintro e w1 ⟨rfl, h1, g1⟩; have HB1 := Lib.hid (rangeAt_only HB.out g1 (by simp) (ne_some (Nat.ne_of_gt HLT.out))); have HF := Lib.hid (And.intro h1 (only_trans HG.out g1)); clear h1 g1))
  all_goals
    go_wp2_with fail
    go_end0
    exact ⟨rfl, HF.out⟩
end Go.Proofs.YtfoljmpphbhobaaGreatDoor
