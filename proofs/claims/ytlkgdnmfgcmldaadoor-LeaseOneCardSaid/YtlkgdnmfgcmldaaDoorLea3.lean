/- The table of leases: Find, both ways. -/
import Derived.Test.YtlkgdnmfgcmldaaDoorLea2
import Derived.Laws.NewBlocks
import Derived.Laws.ResultCell
namespace Go.Proofs.YtlkgdnmfgcmldaaDoor
open Go.RowKit Go.Spk
set_option linter.unusedVariables false
/-- Two results, the first of them a lease laid in memory. -/
theorem results_row_tmp {P : Program} {fn : Func} {p u : Tmp} {ty : TypeId} (h : fn.results = #[.cell p ty, .tmp u]) (tmps : Array Value) (w : World) (g : Nat) (t : TypeId) (cs : Array Value) (fr : Nat × Nat) (d : TypeDesc)
    (hp : tmps.getD p undef = .pointer (some ⟨g, 0, none⟩)) (hg : w.heap[g]? = some (.cells cs t fr))
    (hu : P.underlying ty = some d) (hd : (match d with | .struct _ | .array _ _ => true | _ => false) = true) (hi : (P.info? ty).map (·.size) = some cs.size) :
    (results fn tmps).run P w = .ok (.tuple #[.agg cs, tmps.getD u undef]) w := by
  have hp' : tmps[p]?.getD undef = .pointer (some ⟨g, 0, none⟩) := by simpa using hp
  simp [results, h, hp', asAddr, run_loadVar_row w g t ty cs fr d hg hu hd hi, Result.andThen]
set_option maxRecDepth 100000 in
theorem find_calls (g b : Nat) (n tt l e : Int) (L : List Lse) (t a : ByteArray) (ht : t.size ≤ maxLen) (ha : a.size ≤ maxLen) (E : Addr) (w : World) (hT : Whole w g 60 (tabC n tt l b e)) (hM : TabAt w b L)
    (hE : w.cell? ⟨4, 0, none⟩ = some (errI E)) :
    (∃ x ∈ L, x.t = t ∧ x.a = a ∧ Calls Tryd.prog 11 #[.pointer (some ⟨g, 0, none⟩), .string t, .string a] w fun e w' => e = .returned (.tuple #[lseV x, .nilIface]) ∧ Below w.heap.size w w') ∨
    ((∀ x ∈ L, ¬ (x.t = t ∧ x.a = a)) ∧ Calls Tryd.prog 11 #[.pointer (some ⟨g, 0, none⟩), .string t, .string a] w fun e w' => e = .returned (.tuple #[lseV lse0, errI E]) ∧ Below w.heap.size w w') := by
  obtain ⟨w1, hw1⟩ : ∃ w1, w1 = w.alloc (.cells #[.string ⟨#[]⟩, .string ⟨#[]⟩, .int .i64 0, .int .i64 0, .int .i64 0] 29) := ⟨_, rfl⟩
  have hT1 : Whole w1 g 60 (tabC n tt l b e) := by rw [hw1]; exact hT.alloc _
  have c3 : w1.cell? ⟨g, 3, none⟩ = some (.map (some b)) := by rw [hT1.at_]; rfl
  have hM1 : TabAt w1 b L := by rw [hw1]; exact hM.kept (World.grownBy_alloc w _ none) (by simp)
  have hE1 : w1.cell? ⟨4, 0, none⟩ = some (errI E) := by rw [hw1]; exact (World.cell?_alloc_lt w _ _ (block_lt_of_cell hE)).trans hE
  have hl := hM1.look t a ht ha
  clear hT hT1 hM hM1 hE
  rw [hw1] at c3 hE1 hl
  have hE2 : ((w.alloc (.cells #[.string ⟨#[]⟩, .string ⟨#[]⟩, .int .i64 0, .int .i64 0, .int .i64 0] 29)).alloc (.cells #[.string ⟨#[]⟩, .string ⟨#[]⟩, .int .i64 0, .int .i64 0, .int .i64 0] 29)).cell? ⟨4, 0, none⟩ = some (errI E) := (World.cell?_alloc_lt _ _ _ (block_lt_of_cell hE1)).trans hE1
  unfold nameV at hl
  clear hw1
  rcases hl with ⟨x, hx, h1, h2, hrun⟩ | ⟨hno, hrun⟩
  · refine .inl ⟨x, hx, h1, h2, ?_⟩
    subst h1; subst h2
    unfold lseV at hrun ⊢
    go_enter Tryd.func11, Tryd.ntmps11
    go_wp2_with fail
    refine bodyPost_ret_by (results_row_tmp rfl _ _ w.heap.size 29 (lseV x).cells (0, 0) _ rfl ?_ Tryd.underlying29 rfl (by kernel_rfl)) rfl ⟨rfl, by go_grown⟩
    exact heap_alloc2_old _ _ _
  · refine .inr ⟨hno, ?_⟩
    unfold lseV lse0 at hrun ⊢
    unfold errI at hE1 hE2 ⊢
    go_enter Tryd.func11, Tryd.ntmps11
    go_wp2_with fail
    go_region
    go_wp2_with fail
    refine bodyPost_ret_by (results_row_tmp rfl _ _ w.heap.size 29 (lseV lse0).cells (0, 0) _ rfl ?_ Tryd.underlying29 rfl (by kernel_rfl)) rfl ⟨rfl, by go_grown⟩
    exact heap_alloc2_old _ _ _
end Go.Proofs.YtlkgdnmfgcmldaaDoor
