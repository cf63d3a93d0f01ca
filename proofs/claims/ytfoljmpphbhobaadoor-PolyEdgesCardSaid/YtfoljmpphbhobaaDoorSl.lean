/- An argument that is a slice of integers, opened and shut: over any program. -/
import Derived.Test.YtfoljmpphbhobaaDoorArr
import Derived.ChangeSlices
namespace Go.Spk
open Go.RowKit Go.ChangeShapes Go.WideShapes
section
variable {H : Type} {enc : TypeId × Value → H} {P : Program} {w : World}
theorem open_sl {t e : TypeId} {k : IntKind} {v : Value} {d : DataW H} {ps : List MemPlace} (ht : P.underlying t = some (.slice e)) (he : P.underlying e = some (.int k)) (hc : P.cellsOf e = 1)
    (hv : ∃ A l c, v = .slice A l c) (h : DataW.Trod enc P w 0 (fun _ => true) true t v d ps) :
    ∃ (A : Option Addr) (zs : List Int) (cap : Nat), v = .slice A zs.length cap ∧ zs.length ≤ maxLen ∧ Rd w A (zs.map (Value.int k)) ∧ (∀ z ∈ zs, (Lit.int k z).wf = true) ∧
      ∀ (W' : World) (sp : Nat → Bool), (∀ p ∈ ps, sp p.block = true) → Below w.heap.size w W' → DataW.Trod enc P W' 0 sp true t v d ps := by
  obtain ⟨A, l, c, rfl⟩ := hv
  obtain ⟨fuel, hf⟩ := h
  rcases open_ints ht he hc hf with ⟨hcs, hx⟩ | ⟨a, len, cap, zs, hcs, hb, hl, hm, hz, hx, hcell, hwz⟩
  · simp [Value.cells] at hcs
    obtain ⟨rfl, rfl, rfl⟩ := hcs
    simp only [Prod.mk.injEq] at hx
    obtain ⟨rfl, rfl⟩ := hx
    refine ⟨none, [], 0, rfl, by simp, Rd.empty w none, by simp, fun W' sp _ _ => ⟨1, ?_⟩⟩
    simp [DataW.trod, Value.cells, ht]
  · simp [Value.cells] at hcs
    obtain ⟨rfl, rfl, rfl⟩ := hcs
    simp only [Prod.mk.injEq] at hx
    obtain ⟨rfl, rfl⟩ := hx
    simp only [if_true] at hz
    have htl : (zs.take l).length = l := by rw [List.length_take]; omega
    refine ⟨some a, zs.take l, c, by rw [htl], by rw [htl]; omega, ?_, fun z hzm => hwz z (List.mem_of_mem_take hzm), ?_⟩
    · intro hne
      have h0 : 0 < zs.length := by
        rw [hz]
        have : 0 < (zs.take l).length := by
          cases hzl : zs.take l with
          | nil => simp [hzl] at hne
          | cons x xs => simp
        omega
      refine ⟨a, rfl, ?_, ?_⟩
      · have := block_lt_of_cell (hcell 0 h0)
        rwa [add_block] at this
      · intro j u hu
        have hj : j < l := by
          have := (List.getElem?_eq_some_iff.1 hu).1
          rw [List.length_map, htl] at this; exact this
        rw [hcell j (by omega), ← hu]
        simp [List.getD, hj, show j < zs.length by omega]
    · intro W' sp hsp hb'
      refine ⟨2, shut_ints 0 ht he hc (Nat.zero_le _) hl hm ?_ ?_ hwz⟩
      · rw [hz]
        by_cases h0 : c = 0
        · have : l = 0 := by omega
          simp [h0, this]
        · have hs : sp a.block = true := by
            have hmem : MemPlace.cell a.block a.off ∈ MemPlace.row a zs.length := by
              simp [MemPlace.row]
              omega
            exact hsp _ hmem
          rw [hs]; simp
      · intro i hi
        rw [← hcell i hi]
        exact hb'.cell (by
          have := block_lt_of_cell (hcell i hi)
          exact this)
end
end Go.Spk
