/- A slice of leases, sorted by the library. -/
import Derived.Test.YtlkgdnmfgcmldaaDoorLea12
import Derived.Test.YtlkgdnmfgcmldaaDoorShelf
namespace Go.Proofs.YtlkgdnmfgcmldaaDoor
open Go.RowKit Go.Spk Go.Sort
set_option linter.unusedVariables false
theorem asc_of_sorted {V M : List Lse} (hn : M.Pairwise (fun x y => ¬ (x.t = y.t ∧ x.a = y.a))) (hs : SortedIn (ltOf cmpL) 0 M.length M.toArray) : Asc M := by
  unfold Asc
  rw [List.pairwise_iff_getElem] at hn ⊢
  intro i j hi hj hij
  have h := hs i j (Nat.zero_le _) hij hj
  rw [getElem!_pos M.toArray j (by simpa using hj), getElem!_pos M.toArray i (by simpa using hi), ltOf_cmpL] at h
  simp only [List.getElem_toArray] at h
  unfold ltL at h ⊢
  rcases ltN_three M[i].t M[i].a M[j].t M[j].a with k | k | k
  · exact k
  · exact absurd k (hn i j hi hj hij)
  · rw [k] at h; cases h
theorem sort_calls (B : Nat) (v : Value) (V M : List Lse) (hM : Asc M) (hp : V.Perm M) (hl : V.length ≤ 100000) (w : World) (h : Lows w B 29 v V) :
    Calls Tryd.prog 32 #[v, .func (.func 33) #[] #[]] w fun e w' => e = .returned (.tuple #[]) ∧ Lows w' B 29 v M ∧ w.grownBy w' v.ownBlock := by
  rcases h.shape with ⟨rfl, rfl⟩ | ⟨g, cap, cur, rfl, h1, h2, h3, h4, h5, h6⟩
  · obtain rfl : M = [] := hp.nil_eq.symm
    refine (AnyF.slices_SortFunc_none Tryd.sortL none 0 _ w).mono ?_
    rintro e w' ⟨rfl, rfl⟩
    exact ⟨rfl, h, World.grownBy.refl w' _⟩
  · have eg : ∀ args w, (callFunc 33 args).run Tryd.prog w = .ok (.enter 33 args) w := enters_of Tryd.func33 (by kernel_rfl) rfl
    have hcon := AnyQ.slices_SortFunc Tryd.sortL 5 Tryd.isAgg29 Tryd.sizeOf29 lseC (fun _ => rfl) lseC_one cmpL cmpL_swo 33 #[] g 0 cap V.toArray w eg (cmpL_lays g 0 _ w) (holds_lse h2 h6) (Array.getElem?_eq_some_iff.1 h2).1 (by simp; omega)
    change Calls Tryd.prog 32 _ _ _ at hcon
    refine hcon.mono ?_
    rintro e w' ⟨rfl, d', n, os, hpi, hs, rfl⟩
    obtain ⟨M', rfl⟩ : ∃ M', d' = M'.toArray := ⟨d'.toList, by simp⟩
    have hsz : M'.length = V.length := by simpa using hpi.1
    have hpp : M'.Perm V := by
      have := hpi.2.2
      rwa [List.size_toArray, Array.toList_extract, Array.toList_extract, List.extract_eq_take_drop, List.extract_eq_take_drop, Nat.sub_zero, List.drop_zero, List.drop_zero, List.take_of_length_le (by simp [hsz]), List.take_of_length_le (by simp)] at this
    have hn : M'.Pairwise (fun x y => ¬ (x.t = y.t ∧ x.a = y.a)) := ((hpp.trans hp).symm.pairwise_iff (fun {x y} hne e => hne ⟨e.1.symm, e.2.symm⟩)).1 hM.names
    have ha : Asc M' := asc_of_sorted (V := V) hn (by simpa [hsz] using hs)
    obtain rfl : M' = M := ha.unique hM (hpp.trans hp)
    exact ⟨rfl, Lows.sorted hsz h1 h2 h3 h4 h5, grownBy_sortL _⟩
end Go.Proofs.YtlkgdnmfgcmldaaDoor
