/- A slice of strings, opened. -/
import Derived.Test.YtfoljmpphbhobaaGreatDoorOpen12
namespace Go.Proofs.YtfoljmpphbhobaaGreatDoor
open Go.ChangeShapes Go.WideShapes Go.ChangeAt Go.RowKit Go.Spk Go.Deep
theorem open_strs {H : Type} {enc : TypeId × Value → H} {w : World} {v : Value} {d : DataW H} {ps : List MemPlace} (hv : ∃ A l c, v = .slice A l c) (h : DataW.Trod enc Tryz.prog w 0 (fun _ => true) true 51 v d ps) :
    ∃ (A : Option Addr) (ls : List ByteArray) (cap : Nat), v = .slice A ls.length cap ∧ ls.length ≤ maxLen ∧ Rd w A (ls.map Value.string) := by
  obtain ⟨A, l, c, rfl⟩ := hv
  obtain ⟨fuel, hf⟩ := h
  rcases open_slice Tryz.underlying51 hf with ⟨hcs, _⟩ | ⟨a, len, cap, m, n, D, Pl, hcs, _, hl, hm, hmm, _, hx⟩
  · simp [Value.cells] at hcs
    obtain ⟨rfl, rfl, rfl⟩ := hcs
    exact ⟨none, [], 0, rfl, by simp, Rd.empty _ _⟩
  · simp [Value.cells] at hcs
    obtain ⟨rfl, rfl, rfl⟩ := hcs
    simp only [if_true] at hmm
    subst hmm
    rw [cellsStr] at hx
    have hex : ∀ i, i < l → ∃ s : ByteArray, w.cell? (a.add i) = some (.string s) := by
      intro i hi
      obtain ⟨cs', hc, ht⟩ := hx i (by omega)
      obtain ⟨_, hlen, hat⟩ := World.cells?_some hc
      obtain ⟨s, e2, _, _⟩ := DataW.trod_string Tryz.underlying9 ht
      refine ⟨s, ?_⟩
      have h0 := hat 0 (by omega)
      rw [Nat.mul_one, Addr.add_zero'] at h0
      rw [h0, e2]; rfl
    let F : Nat → ByteArray := fun i => if h : i < l then (hex i h).choose else ⟨#[]⟩
    refine ⟨some a, (List.range l).map F, _, by rw [List.length_map, List.length_range], by rw [List.length_map, List.length_range]; omega, fun hne => ?_⟩
    have hl0 : 0 < l := by
      cases l with
      | zero => simp at hne
      | succ l => omega
    have hcell : ∀ j, j < l → w.cell? (a.add j) = some (.string (F j)) := by
      intro j hj
      have h := (hex j hj).choose_spec
      simpa [F, hj] using h
    refine ⟨a, rfl, ?_, fun j u hu => ?_⟩
    · have h0 := hcell 0 hl0
      rw [Addr.add_zero'] at h0
      exact block_lt_of_cell h0
    · have hj : j < l := by
        have := (List.getElem?_eq_some_iff.1 hu).1
        simpa using this
      rw [hcell j hj]
      simp [hj] at hu
      rw [← hu]
end Go.Proofs.YtfoljmpphbhobaaGreatDoor
