/- The sentinels of a world, out of the rows' lists. -/
import Derived.Test.YtlkgdnmfgcmldaaDoorCode
import Derived.Test.YtlkgdnmfgcmldaaDoorErrL
namespace Go.Proofs.YtlkgdnmfgcmldaaDoor
open Go.ChangeShapes Go.WideShapes Go.ChangeAt Go.RowKit Go.Spk
set_option linter.unusedVariables false
def errD (x : String × Nat × List UInt8) : String × DataW Unit := (x.1, .iface "*errors.errorString" (.ptr (.agg [.lit (.string x.2.2)])))
set_option maxRecDepth 100000 in
theorem errs_vars (W : World) : ∀ (l : List (String × Nat × List UInt8)) (hl : ∀ x ∈ l, Tryd.prog.globalNamed x.1 = some x.2.1 ∧ (Tryd.prog.globals[x.2.1]?).map (·.type) = some 31) (ps : List MemPlace)
    (h : DataW.LaidVars Tryd.prog W (l.map errD) ps) (hnd : ps.Nodup)
    (hrows : ∀ b off, MemPlace.cell b off ∈ ps → (∃ c t, W.heap[b]? = some (.cells c t (0, 0))) ∧ ∀ u v, W.cell? ⟨b, off, none⟩ = some (.iface u v) → Value.okWide Tryd.prog W .any 0 u v),
    ∃ L : List Addr, L.length = l.length ∧ L.Nodup ∧ (∀ a ∈ L, MemPlace.cell a.block a.off ∈ ps) ∧ ∀ (i : Nat) (x : String × Nat × List UInt8) (a : Addr), l[i]? = some x → L[i]? = some a → W.cell? ⟨x.2.1, 0, none⟩ = some (errI a)
  | [], hl, ps, h, hnd, hrows => ⟨[], rfl, List.nodup_nil, by simp, by simp⟩
  | x :: l, hl, ps, h, hnd, hrows => by
    obtain ⟨g, t, cs, f, p, q, hg, ht, hv, hd, hq, rfl⟩ := h
    obtain ⟨hgx, htx⟩ := hl x (by simp)
    obtain rfl := Option.some.inj (hgx.symm.trans hg)
    obtain rfl := Option.some.inj (htx.symm.trans ht)
    obtain ⟨l0⟩ := cs
    have ok0 : ∀ u v, l0 = [.iface u v] → Value.okWide Tryd.prog W .any 0 u v := fun u v e => by
      subst e
      exact (hrows x.2.1 0 (by simp [MemPlace.row])).2 u v (by simpa using World.var?_cell hg hv 0)
    obtain ⟨a, s, rfl, hc, hs, hz, rfl⟩ := errorString_of_trod Tryd.underlying31 rowE Tryd.underlying122 Tryd.underlying147 rfl rfl Tryd.underlying9 cellsE cellsS hd ok0
    have hsub : q.Sublist (MemPlace.row ⟨x.2.1, 0, none⟩ (Array.mk [Value.iface 122 (.pointer (some a))]).size ++ MemPlace.row a 1 ++ q) := List.sublist_append_right _ _
    obtain ⟨L, hL, hLn, hLp, hLc⟩ := errs_vars W l (fun y hy => hl y (by simp [hy])) q hq (List.Nodup.sublist hsub hnd) (fun b off hm => hrows b off (hsub.subset hm))
    refine ⟨a :: L, by simp [hL], ?_, ?_, ?_⟩
    · refine List.nodup_cons.2 ⟨fun hm => ?_, hLn⟩
      have h1 := hLp a hm
      simp [MemPlace.row] at hnd
      simp_all
    · intro b hb
      rcases List.mem_cons.1 hb with rfl | hb
      · simp [MemPlace.row]
      · exact hsub.subset (hLp b hb)
    · intro i y b hy hb
      cases i with
      | zero =>
        simp only [List.getElem?_cons_zero, Option.some.injEq] at hy hb
        subst hy hb
        simpa [errI] using World.var?_cell hg hv 0
      | succ i => exact hLc i y b (by simpa using hy) (by simpa using hb)
def errL : List (String × Nat × List UInt8) := [("speakeasy/api.ErrArg", 5, [97, 110, 32, 97, 114, 103, 117, 109, 101, 110, 116, 32, 116, 104, 97, 116, 32, 109, 97, 121, 32, 110, 111, 116, 32, 98, 101]),
  ("speakeasy/api.ErrEnd", 6, [98, 121, 116, 101, 115, 32, 97, 114, 101, 32, 119, 97, 110, 116, 105, 110, 103]),
  ("speakeasy/api.ErrForm", 7, [98, 121, 116, 101, 115, 32, 116, 104, 97, 116, 32, 115, 97, 121, 32, 110, 111, 116, 104, 105, 110, 103]),
  ("speakeasy/api.ErrBig", 8, [109, 111, 114, 101, 32, 116, 104, 97, 110, 32, 116, 104, 101, 114, 101, 32, 109, 97, 121, 32, 98, 101]),
  ("speakeasy/api.ErrMac", 9, [97, 32, 115, 117, 109, 32, 116, 104, 97, 116, 32, 100, 111, 101, 115, 110, 39, 116, 32, 102, 105, 116]),
  ("speakeasy/api.ErrState", 10, [110, 111, 116, 32, 110, 111, 119]),
  ("speakeasy/api.ErrFull", 3, [116, 104, 101, 114, 101, 32, 105, 115, 32, 110, 111, 32, 114, 111, 111, 109]),
  ("speakeasy/api.ErrNone", 4, [116, 104, 101, 114, 101, 32, 105, 115, 32, 110, 111, 110, 101]),
  ("speakeasy/api.ErrHave", 1, [105, 116, 32, 105, 115, 32, 116, 104, 101, 114, 101, 32, 97, 108, 114, 101, 97, 100, 121]),
  ("speakeasy/api.ErrKey", 11, [97, 32, 107, 101, 121, 32, 116, 104, 97, 116, 32, 109, 97, 121, 32, 110, 111, 116, 32, 98, 101]),
  ("speakeasy/api.ErrSign", 12, [97, 32, 115, 105, 103, 110, 97, 116, 117, 114, 101, 32, 116, 104, 97, 116, 32, 100, 111, 101, 115, 110, 39, 116, 32, 102, 105, 116]),
  ("speakeasy/api.ErrVersion", 13, [97, 110, 111, 116, 104, 101, 114, 32, 118, 101, 114, 115, 105, 111, 110]),
  ("speakeasy/api.ErrAlgo", 14, [110, 111, 116, 104, 105, 110, 103, 32, 105, 110, 32, 99, 111, 109, 109, 111, 110]),
  ("speakeasy/api.ErrHost", 15, [97, 110, 111, 116, 104, 101, 114, 32, 104, 111, 115, 116, 39, 115, 32, 107, 101, 121]),
  ("speakeasy/api.ErrAuth", 16, [105, 116, 32, 109, 97, 121, 32, 110, 111, 116, 32, 99, 111, 109, 101, 32, 105, 110]),
  ("speakeasy/api.ErrQuota", 2, [109, 111, 114, 101, 32, 116, 104, 97, 110, 32, 105, 116, 115, 32, 115, 104, 97, 114, 101]),
  ("speakeasy/api.ErrName", 0, [97, 32, 110, 97, 109, 101, 32, 116, 104, 97, 116, 32, 109, 97, 121, 32, 110, 111, 116, 32, 98, 101]),
  ("speakeasy/api.ErrGone", 17, [105, 116, 32, 105, 115, 32, 103, 111, 110, 101]),
  ("speakeasy/api.ErrWindow", 18, [98, 101, 121, 111, 110, 100, 32, 116, 104, 101, 32, 119, 105, 110, 100, 111, 119]),
  ("speakeasy/api.ErrKind", 19, [116, 104, 101, 114, 101, 32, 105, 115, 32, 110, 111, 32, 115, 117, 99, 104, 32, 107, 105, 110, 100])]
theorem errL_named : ∀ x ∈ errL, Tryd.prog.globalNamed x.1 = some x.2.1 ∧ (Tryd.prog.globals[x.2.1]?).map (·.type) = some 31 := by
  intro x hx
  simp only [errL, List.mem_cons, List.not_mem_nil, or_false] at hx
  rcases hx with rfl | rfl | rfl | rfl | rfl | rfl | rfl | rfl | rfl | rfl | rfl | rfl | rfl | rfl | rfl | rfl | rfl | rfl | rfl | rfl
  · exact ⟨gErrArg, tErrArg⟩
  · exact ⟨gErrEnd, tErrEnd⟩
  · exact ⟨gErrForm, tErrForm⟩
  · exact ⟨gErrBig, tErrBig⟩
  · exact ⟨gErrMac, tErrMac⟩
  · exact ⟨gErrState, tErrState⟩
  · exact ⟨gErrFull, tErrFull⟩
  · exact ⟨gErrNone, tErrNone⟩
  · exact ⟨gErrHave, tErrHave⟩
  · exact ⟨gErrKey, tErrKey⟩
  · exact ⟨gErrSign, tErrSign⟩
  · exact ⟨gErrVersion, tErrVersion⟩
  · exact ⟨gErrAlgo, tErrAlgo⟩
  · exact ⟨gErrHost, tErrHost⟩
  · exact ⟨gErrAuth, tErrAuth⟩
  · exact ⟨gErrQuota, tErrQuota⟩
  · exact ⟨gErrName, tErrName⟩
  · exact ⟨gErrGone, tErrGone⟩
  · exact ⟨gErrWindow, tErrWindow⟩
  · exact ⟨gErrKind, tErrKind⟩
theorem errs_of {W : World} (h : laidMet Tryd.prog (errL.map errD) W) : ∃ E : Nat → Addr, Errs W E := by
  obtain ⟨ps, hv, hnd, hrows⟩ := h
  obtain ⟨L, hL, hLn, hLp, hLc⟩ := errs_vars W errL errL_named ps hv hnd hrows
  have hlen : L.length = 20 := hL
  have hget : ∀ i, i < 20 → L[i]? = some (L.getD i ⟨0, 0, none⟩) := fun i hi => by simp [List.getD, show i < L.length by omega]
  have hx : ∀ i, i < 20 → ∃ x, errL[i]? = some x ∧ x.2.1 = errG i := by
    intro i hi
    have : i = 0 ∨ i = 1 ∨ i = 2 ∨ i = 3 ∨ i = 4 ∨ i = 5 ∨ i = 6 ∨ i = 7 ∨ i = 8 ∨ i = 9 ∨ i = 10 ∨ i = 11 ∨ i = 12 ∨ i = 13 ∨ i = 14 ∨ i = 15 ∨ i = 16 ∨ i = 17 ∨ i = 18 ∨ i = 19 := by omega
    rcases this with rfl | rfl | rfl | rfl | rfl | rfl | rfl | rfl | rfl | rfl | rfl | rfl | rfl | rfl | rfl | rfl | rfl | rfl | rfl | rfl <;> exact ⟨_, rfl, rfl⟩
  refine ⟨fun i => L.getD i ⟨0, 0, none⟩, fun i hi => ?_, fun i hi => ?_, fun i j hi hj e => ?_⟩
  · obtain ⟨x, h1, h2⟩ := hx i hi
    rw [← h2]
    exact hLc i x _ h1 (hget i hi)
  · exact (hrows _ _ (hLp _ (List.mem_of_getElem? (hget i hi)))).1
  · have h1 := hget i hi; have h2 := hget j hj
    change L.getD i ⟨0, 0, none⟩ = L.getD j ⟨0, 0, none⟩ at e
    rw [e, ← h2] at h1
    exact (List.getElem?_inj (i := i) (by omega) hLn).1 h1
end Go.Proofs.YtlkgdnmfgcmldaaDoor
