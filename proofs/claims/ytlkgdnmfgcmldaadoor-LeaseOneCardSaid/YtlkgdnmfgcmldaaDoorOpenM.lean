/- The sentinels of a world, out of the rows' lists; a slice of acts, and a configuration, opened. -/
import Derived.Test.YtlkgdnmfgcmldaaDoorA1
import Derived.Test.YtlkgdnmfgcmldaaDoorRows
import Derived.WalkKit
import Derived.ProofKit
import Derived.OpenShut
import Derived.Deep.DeepHandedRow
import Derived.Lib.LaidTab
import Derived.Stop.LaidErr
import Derived.Stop.ErrReads
import Derived.RowKitTokens
import Derived.Test.YtlkgdnmfgcmldaaDoorCode
import Derived.Test.YtlkgdnmfgcmldaaDoorLea23
import Derived.Test.YtlkgdnmfgcmldaaDoorStay
import Derived.Deep.Slices
import Derived.ChangeMaps5
namespace Go.Proofs.YtlkgdnmfgcmldaaDoor
section
open Go.ChangeShapes Go.WideShapes Go.ChangeAt Go.RowKit Go.Spk
theorem own : ownKnob Tryd.prog.godebug = none := by kernel_rfl
theorem cellsi : Tryd.prog.cellsOf 3 = 1 := by kernel_rfl
theorem starE : "*" ++ "errors.errorString" = "*errors.errorString" := by decide
theorem rowE (u : TypeId) (h : Tryd.prog.typeName? 3 u = some "*errors.errorString") : u = 122 :=
  typeName_ptr_named (nm := "errors.errorString") (by rw [starE]; kernel_rfl) (by kernel_rfl) (by decide) u (by rw [starE]; exact h)
theorem cellsE : Tryd.prog.cellsOf 147 = 1 := by kernel_rfl
theorem cellsS : Tryd.prog.cellsOf 9 = 1 := by kernel_rfl
/-- A sentinel at the head of the list: its variable holds a pointer that is not nil. -/
theorem err_of {n : String} {text : List UInt8} {r : List (String × DataW Unit)} {W : World} {g : Nat} (hg : Tryd.prog.globalNamed n = some g) (ht : (Tryd.prog.globals[g]?).map (·.type) = some 31)
    (h : laidMet Tryd.prog ((n, .iface "*errors.errorString" (.ptr (.agg [.lit (.string text)]))) :: r) W) :
    ∃ a : Addr, W.cell? ⟨g, 0, none⟩ = some (.iface 122 (.pointer (some a))) := by
  obtain ⟨a, s, hv, _⟩ := laid_sentinel h hg ht Tryd.underlying31 rowE Tryd.underlying122 Tryd.underlying147 rfl rfl Tryd.underlying9 cellsE cellsS
  exact ⟨a, by rw [World.var?_cell hg hv 0]; rfl⟩
theorem gErrArg : Tryd.prog.globalNamed "speakeasy/api.ErrArg" = some 5 := by kernel_rfl
theorem tErrArg : (Tryd.prog.globals[5]?).map (·.type) = some 31 := by kernel_rfl
theorem gErrEnd : Tryd.prog.globalNamed "speakeasy/api.ErrEnd" = some 6 := by kernel_rfl
theorem tErrEnd : (Tryd.prog.globals[6]?).map (·.type) = some 31 := by kernel_rfl
theorem gErrForm : Tryd.prog.globalNamed "speakeasy/api.ErrForm" = some 7 := by kernel_rfl
theorem tErrForm : (Tryd.prog.globals[7]?).map (·.type) = some 31 := by kernel_rfl
theorem gErrBig : Tryd.prog.globalNamed "speakeasy/api.ErrBig" = some 8 := by kernel_rfl
theorem tErrBig : (Tryd.prog.globals[8]?).map (·.type) = some 31 := by kernel_rfl
theorem gErrMac : Tryd.prog.globalNamed "speakeasy/api.ErrMac" = some 9 := by kernel_rfl
theorem tErrMac : (Tryd.prog.globals[9]?).map (·.type) = some 31 := by kernel_rfl
theorem gErrState : Tryd.prog.globalNamed "speakeasy/api.ErrState" = some 10 := by kernel_rfl
theorem tErrState : (Tryd.prog.globals[10]?).map (·.type) = some 31 := by kernel_rfl
theorem gErrFull : Tryd.prog.globalNamed "speakeasy/api.ErrFull" = some 3 := by kernel_rfl
theorem tErrFull : (Tryd.prog.globals[3]?).map (·.type) = some 31 := by kernel_rfl
theorem gErrNone : Tryd.prog.globalNamed "speakeasy/api.ErrNone" = some 4 := by kernel_rfl
theorem tErrNone : (Tryd.prog.globals[4]?).map (·.type) = some 31 := by kernel_rfl
theorem gErrHave : Tryd.prog.globalNamed "speakeasy/api.ErrHave" = some 1 := by kernel_rfl
theorem tErrHave : (Tryd.prog.globals[1]?).map (·.type) = some 31 := by kernel_rfl
theorem gErrKey : Tryd.prog.globalNamed "speakeasy/api.ErrKey" = some 11 := by kernel_rfl
theorem tErrKey : (Tryd.prog.globals[11]?).map (·.type) = some 31 := by kernel_rfl
theorem gErrSign : Tryd.prog.globalNamed "speakeasy/api.ErrSign" = some 12 := by kernel_rfl
theorem tErrSign : (Tryd.prog.globals[12]?).map (·.type) = some 31 := by kernel_rfl
theorem gErrVersion : Tryd.prog.globalNamed "speakeasy/api.ErrVersion" = some 13 := by kernel_rfl
theorem tErrVersion : (Tryd.prog.globals[13]?).map (·.type) = some 31 := by kernel_rfl
theorem gErrAlgo : Tryd.prog.globalNamed "speakeasy/api.ErrAlgo" = some 14 := by kernel_rfl
theorem tErrAlgo : (Tryd.prog.globals[14]?).map (·.type) = some 31 := by kernel_rfl
theorem gErrHost : Tryd.prog.globalNamed "speakeasy/api.ErrHost" = some 15 := by kernel_rfl
theorem tErrHost : (Tryd.prog.globals[15]?).map (·.type) = some 31 := by kernel_rfl
theorem gErrAuth : Tryd.prog.globalNamed "speakeasy/api.ErrAuth" = some 16 := by kernel_rfl
theorem tErrAuth : (Tryd.prog.globals[16]?).map (·.type) = some 31 := by kernel_rfl
theorem gErrQuota : Tryd.prog.globalNamed "speakeasy/api.ErrQuota" = some 2 := by kernel_rfl
theorem tErrQuota : (Tryd.prog.globals[2]?).map (·.type) = some 31 := by kernel_rfl
theorem gErrName : Tryd.prog.globalNamed "speakeasy/api.ErrName" = some 0 := by kernel_rfl
theorem tErrName : (Tryd.prog.globals[0]?).map (·.type) = some 31 := by kernel_rfl
theorem gErrGone : Tryd.prog.globalNamed "speakeasy/api.ErrGone" = some 17 := by kernel_rfl
theorem tErrGone : (Tryd.prog.globals[17]?).map (·.type) = some 31 := by kernel_rfl
theorem gErrWindow : Tryd.prog.globalNamed "speakeasy/api.ErrWindow" = some 18 := by kernel_rfl
theorem tErrWindow : (Tryd.prog.globals[18]?).map (·.type) = some 31 := by kernel_rfl
theorem gErrKind : Tryd.prog.globalNamed "speakeasy/api.ErrKind" = some 19 := by kernel_rfl
theorem tErrKind : (Tryd.prog.globals[19]?).map (·.type) = some 31 := by kernel_rfl
noncomputable def low : Nat := (World.holding Tryd.prog default ⟨#[], #[], []⟩).heap.size
noncomputable def errWorld (os : Os) : World :=
  let w := World.holding Tryd.prog os ⟨#[.cells #[.string ⟨#[97, 110, 32, 97, 114, 103, 117, 109, 101, 110, 116, 32, 116, 104, 97, 116, 32, 109, 97, 121, 32, 110, 111, 116, 32, 98, 101]⟩] 147, .cells #[.string ⟨#[98, 121, 116, 101, 115, 32, 97, 114, 101, 32, 119, 97, 110, 116, 105, 110, 103]⟩] 147, .cells #[.string ⟨#[98, 121, 116, 101, 115, 32, 116, 104, 97, 116, 32, 115, 97, 121, 32, 110, 111, 116, 104, 105, 110, 103]⟩] 147, .cells #[.string ⟨#[109, 111, 114, 101, 32, 116, 104, 97, 110, 32, 116, 104, 101, 114, 101, 32, 109, 97, 121, 32, 98, 101]⟩] 147, .cells #[.string ⟨#[97, 32, 115, 117, 109, 32, 116, 104, 97, 116, 32, 100, 111, 101, 115, 110, 39, 116, 32, 102, 105, 116]⟩] 147, .cells #[.string ⟨#[110, 111, 116, 32, 110, 111, 119]⟩] 147, .cells #[.string ⟨#[116, 104, 101, 114, 101, 32, 105, 115, 32, 110, 111, 32, 114, 111, 111, 109]⟩] 147, .cells #[.string ⟨#[116, 104, 101, 114, 101, 32, 105, 115, 32, 110, 111, 110, 101]⟩] 147, .cells #[.string ⟨#[105, 116, 32, 105, 115, 32, 116, 104, 101, 114, 101, 32, 97, 108, 114, 101, 97, 100, 121]⟩] 147, .cells #[.string ⟨#[97, 32, 107, 101, 121, 32, 116, 104, 97, 116, 32, 109, 97, 121, 32, 110, 111, 116, 32, 98, 101]⟩] 147, .cells #[.string ⟨#[97, 32, 115, 105, 103, 110, 97, 116, 117, 114, 101, 32, 116, 104, 97, 116, 32, 100, 111, 101, 115, 110, 39, 116, 32, 102, 105, 116]⟩] 147, .cells #[.string ⟨#[97, 110, 111, 116, 104, 101, 114, 32, 118, 101, 114, 115, 105, 111, 110]⟩] 147, .cells #[.string ⟨#[110, 111, 116, 104, 105, 110, 103, 32, 105, 110, 32, 99, 111, 109, 109, 111, 110]⟩] 147, .cells #[.string ⟨#[97, 110, 111, 116, 104, 101, 114, 32, 104, 111, 115, 116, 39, 115, 32, 107, 101, 121]⟩] 147, .cells #[.string ⟨#[105, 116, 32, 109, 97, 121, 32, 110, 111, 116, 32, 99, 111, 109, 101, 32, 105, 110]⟩] 147, .cells #[.string ⟨#[109, 111, 114, 101, 32, 116, 104, 97, 110, 32, 105, 116, 115, 32, 115, 104, 97, 114, 101]⟩] 147, .cells #[.string ⟨#[97, 32, 110, 97, 109, 101, 32, 116, 104, 97, 116, 32, 109, 97, 121, 32, 110, 111, 116, 32, 98, 101]⟩] 147, .cells #[.string ⟨#[105, 116, 32, 105, 115, 32, 103, 111, 110, 101]⟩] 147, .cells #[.string ⟨#[98, 101, 121, 111, 110, 100, 32, 116, 104, 101, 32, 119, 105, 110, 100, 111, 119]⟩] 147, .cells #[.string ⟨#[116, 104, 101, 114, 101, 32, 105, 115, 32, 110, 111, 32, 115, 117, 99, 104, 32, 107, 105, 110, 100]⟩] 147], #[], []⟩
  { w with heap := ((((((((((((((((((((w.heap).modify 5 (layCells #[.iface 122 (.pointer (some ⟨low + 0, 0, none⟩))])).modify 6 (layCells #[.iface 122 (.pointer (some ⟨low + 1, 0, none⟩))])).modify 7 (layCells #[.iface 122 (.pointer (some ⟨low + 2, 0, none⟩))])).modify 8 (layCells #[.iface 122 (.pointer (some ⟨low + 3, 0, none⟩))])).modify 9 (layCells #[.iface 122 (.pointer (some ⟨low + 4, 0, none⟩))])).modify 10 (layCells #[.iface 122 (.pointer (some ⟨low + 5, 0, none⟩))])).modify 3 (layCells #[.iface 122 (.pointer (some ⟨low + 6, 0, none⟩))])).modify 4 (layCells #[.iface 122 (.pointer (some ⟨low + 7, 0, none⟩))])).modify 1 (layCells #[.iface 122 (.pointer (some ⟨low + 8, 0, none⟩))])).modify 11 (layCells #[.iface 122 (.pointer (some ⟨low + 9, 0, none⟩))])).modify 12 (layCells #[.iface 122 (.pointer (some ⟨low + 10, 0, none⟩))])).modify 13 (layCells #[.iface 122 (.pointer (some ⟨low + 11, 0, none⟩))])).modify 14 (layCells #[.iface 122 (.pointer (some ⟨low + 12, 0, none⟩))])).modify 15 (layCells #[.iface 122 (.pointer (some ⟨low + 13, 0, none⟩))])).modify 16 (layCells #[.iface 122 (.pointer (some ⟨low + 14, 0, none⟩))])).modify 2 (layCells #[.iface 122 (.pointer (some ⟨low + 15, 0, none⟩))])).modify 0 (layCells #[.iface 122 (.pointer (some ⟨low + 16, 0, none⟩))])).modify 17 (layCells #[.iface 122 (.pointer (some ⟨low + 17, 0, none⟩))])).modify 18 (layCells #[.iface 122 (.pointer (some ⟨low + 18, 0, none⟩))])).modify 19 (layCells #[.iface 122 (.pointer (some ⟨low + 19, 0, none⟩))]) }
end
end Go.Proofs.YtlkgdnmfgcmldaaDoor
namespace Go.Proofs.YtlkgdnmfgcmldaaDoor
section
open Go.ChangeShapes Go.WideShapes Go.ChangeAt Go.RowKit Go.Spk
set_option linter.unusedVariables false
def errD (x : String × Nat × List UInt8) : String × DataW Unit := (x.1, .iface "*errors.errorString" (.ptr (.agg [.lit (.string x.2.2)])))
set_option maxRecDepth 100000 in
theorem errs_vars (W : World) : ∀ (l : List (String × Nat × List UInt8)) (hl : ∀ x ∈ l, Tryd.prog.globalNamed x.1 = some x.2.1 ∧ (Tryd.prog.globals[x.2.1]?).map (·.type) = some 31) (ps : List MemPlace)
    (h : DataW.LaidVars Tryd.prog W (l.map errD) ps) (hnd : ps.Nodup)
    (hrows : ∀ b off, MemPlace.cell b off ∈ ps → (∃ c t, W.heap[b]? = some (.cells c t (0, 0))) ∧ ∀ u v, W.cell? ⟨b, off, none⟩ = some (.iface u v) → Value.okWide Tryd.prog W .any 0 u v),
    ∃ L : List Addr, L.length = l.length ∧ L.Nodup ∧ (∀ a ∈ L, MemPlace.cell a.block a.off ∈ ps) ∧ ∀ (i : Nat) (x : String × Nat × List UInt8) (a : Addr), l[i]? = some x → L[i]? = some a → W.cell? ⟨x.2.1, 0, none⟩ = some (errI a)
  | [], hl, ps, h, hnd, hrows => ⟨[], rfl, List.nodup_nil, by simp, by simp⟩
  | x :: l, hl, ps, h, hnd, hrows => by
    obtain ⟨g, t, cs, f, p, q, hg, ht, hv, hd, hq, rfl⟩ := h
    obtain ⟨hgx, htx⟩ := hl x (by simp)
    obtain rfl := Option.some.inj (hgx.symm.trans hg)
    obtain rfl := Option.some.inj (htx.symm.trans ht)
    obtain ⟨l0⟩ := cs
    have ok0 : ∀ u v, l0 = [.iface u v] → Value.okWide Tryd.prog W .any 0 u v := fun u v e => by
      subst e
      exact (hrows x.2.1 0 (by simp [MemPlace.row])).2 u v (by simpa using World.var?_cell hg hv 0)
    obtain ⟨a, s, rfl, hc, hs, hz, rfl⟩ := errorString_of_trod Tryd.underlying31 rowE Tryd.underlying122 Tryd.underlying147 rfl rfl Tryd.underlying9 cellsE cellsS hd ok0
    have hsub : q.Sublist (MemPlace.row ⟨x.2.1, 0, none⟩ (Array.mk [Value.iface 122 (.pointer (some a))]).size ++ MemPlace.row a 1 ++ q) := List.sublist_append_right _ _
    obtain ⟨L, hL, hLn, hLp, hLc⟩ := errs_vars W l (fun y hy => hl y (by simp [hy])) q hq (List.Nodup.sublist hsub hnd) (fun b off hm => hrows b off (hsub.subset hm))
    refine ⟨a :: L, by simp [hL], ?_, ?_, ?_⟩
    · refine List.nodup_cons.2 ⟨fun hm => ?_, hLn⟩
      have h1 := hLp a hm
      simp [MemPlace.row] at hnd
      simp_all
    · intro b hb
      rcases List.mem_cons.1 hb with rfl | hb
      · simp [MemPlace.row]
      · exact hsub.subset (hLp b hb)
    · intro i y b hy hb
      cases i with
      | zero =>
        simp only [List.getElem?_cons_zero, Option.some.injEq] at hy hb
        subst hy hb
        simpa [errI] using World.var?_cell hg hv 0
      | succ i => exact hLc i y b (by simpa using hy) (by simpa using hb)
def errL : List (String × Nat × List UInt8) := [("speakeasy/api.ErrArg", 5, [97, 110, 32, 97, 114, 103, 117, 109, 101, 110, 116, 32, 116, 104, 97, 116, 32, 109, 97, 121, 32, 110, 111, 116, 32, 98, 101]),
  ("speakeasy/api.ErrEnd", 6, [98, 121, 116, 101, 115, 32, 97, 114, 101, 32, 119, 97, 110, 116, 105, 110, 103]),
  ("speakeasy/api.ErrForm", 7, [98, 121, 116, 101, 115, 32, 116, 104, 97, 116, 32, 115, 97, 121, 32, 110, 111, 116, 104, 105, 110, 103]),
  ("speakeasy/api.ErrBig", 8, [109, 111, 114, 101, 32, 116, 104, 97, 110, 32, 116, 104, 101, 114, 101, 32, 109, 97, 121, 32, 98, 101]),
  ("speakeasy/api.ErrMac", 9, [97, 32, 115, 117, 109, 32, 116, 104, 97, 116, 32, 100, 111, 101, 115, 110, 39, 116, 32, 102, 105, 116]),
  ("speakeasy/api.ErrState", 10, [110, 111, 116, 32, 110, 111, 119]),
  ("speakeasy/api.ErrFull", 3, [116, 104, 101, 114, 101, 32, 105, 115, 32, 110, 111, 32, 114, 111, 111, 109]),
  ("speakeasy/api.ErrNone", 4, [116, 104, 101, 114, 101, 32, 105, 115, 32, 110, 111, 110, 101]),
  ("speakeasy/api.ErrHave", 1, [105, 116, 32, 105, 115, 32, 116, 104, 101, 114, 101, 32, 97, 108, 114, 101, 97, 100, 121]),
  ("speakeasy/api.ErrKey", 11, [97, 32, 107, 101, 121, 32, 116, 104, 97, 116, 32, 109, 97, 121, 32, 110, 111, 116, 32, 98, 101]),
  ("speakeasy/api.ErrSign", 12, [97, 32, 115, 105, 103, 110, 97, 116, 117, 114, 101, 32, 116, 104, 97, 116, 32, 100, 111, 101, 115, 110, 39, 116, 32, 102, 105, 116]),
  ("speakeasy/api.ErrVersion", 13, [97, 110, 111, 116, 104, 101, 114, 32, 118, 101, 114, 115, 105, 111, 110]),
  ("speakeasy/api.ErrAlgo", 14, [110, 111, 116, 104, 105, 110, 103, 32, 105, 110, 32, 99, 111, 109, 109, 111, 110]),
  ("speakeasy/api.ErrHost", 15, [97, 110, 111, 116, 104, 101, 114, 32, 104, 111, 115, 116, 39, 115, 32, 107, 101, 121]),
  ("speakeasy/api.ErrAuth", 16, [105, 116, 32, 109, 97, 121, 32, 110, 111, 116, 32, 99, 111, 109, 101, 32, 105, 110]),
  ("speakeasy/api.ErrQuota", 2, [109, 111, 114, 101, 32, 116, 104, 97, 110, 32, 105, 116, 115, 32, 115, 104, 97, 114, 101]),
  ("speakeasy/api.ErrName", 0, [97, 32, 110, 97, 109, 101, 32, 116, 104, 97, 116, 32, 109, 97, 121, 32, 110, 111, 116, 32, 98, 101]),
  ("speakeasy/api.ErrGone", 17, [105, 116, 32, 105, 115, 32, 103, 111, 110, 101]),
  ("speakeasy/api.ErrWindow", 18, [98, 101, 121, 111, 110, 100, 32, 116, 104, 101, 32, 119, 105, 110, 100, 111, 119]),
  ("speakeasy/api.ErrKind", 19, [116, 104, 101, 114, 101, 32, 105, 115, 32, 110, 111, 32, 115, 117, 99, 104, 32, 107, 105, 110, 100])]
theorem errL_named : ∀ x ∈ errL, Tryd.prog.globalNamed x.1 = some x.2.1 ∧ (Tryd.prog.globals[x.2.1]?).map (·.type) = some 31 := by
  intro x hx
  simp only [errL, List.mem_cons, List.not_mem_nil, or_false] at hx
  rcases hx with rfl | rfl | rfl | rfl | rfl | rfl | rfl | rfl | rfl | rfl | rfl | rfl | rfl | rfl | rfl | rfl | rfl | rfl | rfl | rfl
  · exact ⟨gErrArg, tErrArg⟩
  · exact ⟨gErrEnd, tErrEnd⟩
  · exact ⟨gErrForm, tErrForm⟩
  · exact ⟨gErrBig, tErrBig⟩
  · exact ⟨gErrMac, tErrMac⟩
  · exact ⟨gErrState, tErrState⟩
  · exact ⟨gErrFull, tErrFull⟩
  · exact ⟨gErrNone, tErrNone⟩
  · exact ⟨gErrHave, tErrHave⟩
  · exact ⟨gErrKey, tErrKey⟩
  · exact ⟨gErrSign, tErrSign⟩
  · exact ⟨gErrVersion, tErrVersion⟩
  · exact ⟨gErrAlgo, tErrAlgo⟩
  · exact ⟨gErrHost, tErrHost⟩
  · exact ⟨gErrAuth, tErrAuth⟩
  · exact ⟨gErrQuota, tErrQuota⟩
  · exact ⟨gErrName, tErrName⟩
  · exact ⟨gErrGone, tErrGone⟩
  · exact ⟨gErrWindow, tErrWindow⟩
  · exact ⟨gErrKind, tErrKind⟩
theorem errs_of {W : World} (h : laidMet Tryd.prog (errL.map errD) W) : ∃ E : Nat → Addr, Errs W E := by
  obtain ⟨ps, hv, hnd, hrows⟩ := h
  obtain ⟨L, hL, hLn, hLp, hLc⟩ := errs_vars W errL errL_named ps hv hnd hrows
  have hlen : L.length = 20 := hL
  have hget : ∀ i, i < 20 → L[i]? = some (L.getD i ⟨0, 0, none⟩) := fun i hi => by simp [List.getD, show i < L.length by omega]
  have hx : ∀ i, i < 20 → ∃ x, errL[i]? = some x ∧ x.2.1 = errG i := by
    intro i hi
    have : i = 0 ∨ i = 1 ∨ i = 2 ∨ i = 3 ∨ i = 4 ∨ i = 5 ∨ i = 6 ∨ i = 7 ∨ i = 8 ∨ i = 9 ∨ i = 10 ∨ i = 11 ∨ i = 12 ∨ i = 13 ∨ i = 14 ∨ i = 15 ∨ i = 16 ∨ i = 17 ∨ i = 18 ∨ i = 19 := by omega
    rcases this with rfl | rfl | rfl | rfl | rfl | rfl | rfl | rfl | rfl | rfl | rfl | rfl | rfl | rfl | rfl | rfl | rfl | rfl | rfl | rfl <;> exact ⟨_, rfl, rfl⟩
  refine ⟨fun i => L.getD i ⟨0, 0, none⟩, fun i hi => ?_, fun i hi => ?_, fun i j hi hj e => ?_⟩
  · obtain ⟨x, h1, h2⟩ := hx i hi
    rw [← h2]
    exact hLc i x _ h1 (hget i hi)
  · exact (hrows _ _ (hLp _ (List.mem_of_getElem? (hget i hi)))).1
  · have h1 := hget i hi; have h2 := hget j hj
    change L.getD i ⟨0, 0, none⟩ = L.getD j ⟨0, 0, none⟩ at e
    rw [e, ← h2] at h1
    exact (List.getElem?_inj (i := i) (by omega) hLn).1 h1
end
end Go.Proofs.YtlkgdnmfgcmldaaDoor
namespace Go.Proofs.YtlkgdnmfgcmldaaDoor
section
open Go.ChangeShapes Go.WideShapes Go.ChangeAt Go.RowKit Go.Spk Go.Deep
theorem peel1 {cs : List Value} {i : Nat} {v : Value} (h : (cs.drop i).take 1 = [v]) : cs.drop i = v :: cs.drop (i + 1) := by
  have e := List.take_append_drop 1 (cs.drop i)
  rw [h, List.drop_drop] at e
  exact e.symm
theorem cellsAct : Tryd.prog.cellsOf 49 = 5 := by kernel_rfl
theorem cellsStr : Tryd.prog.cellsOf 9 = 1 := by kernel_rfl
def fieldsAt (P : Program) (t : TypeId) : Array Field := match P.underlying t with | some (.struct fs) => fs | _ => #[]
theorem fieldsA_is : Tryd.prog.underlying 49 = some (.struct (fieldsAt Tryd.prog 49)) := by kernel_rfl
theorem fieldsA_size : (fieldsAt Tryd.prog 49).size = 5 := by kernel_rfl
theorem cellsCfg : Tryd.prog.cellsOf 27 = 3 := by kernel_rfl
theorem fieldsC_is : Tryd.prog.underlying 27 = some (.struct (fieldsAt Tryd.prog 27)) := by kernel_rfl
theorem fieldsC_size : (fieldsAt Tryd.prog 27).size = 3 := by kernel_rfl
section
variable {H : Type} {enc : TypeId × Value → H} {w : World} {base : Nat} {sp : Nat → Bool} {held : Bool}
theorem act_open {fuel : Nat} {cs : List Value} {x : DataW H × List MemPlace} (hf : DataW.trod enc Tryd.prog w base sp held fuel 49 cs = some x) :
    ∃ it : Act, it.t.size ≤ maxLen ∧ it.a.size ≤ maxLen ∧ cs = actC it := by
  obtain ⟨xs, n, _, hx, hl, hxl, hi⟩ := DataW.trod_struct fieldsA_is hf
  rw [fieldsA_size] at hxl
  rw [cellsAct] at hl
  have g : ∀ i, i < 5 → ∃ y, xs[i]? = some y := fun i h => ⟨xs[i]'(by rw [hxl]; exact h), List.getElem?_eq_getElem _⟩
  have key : ∀ i, i < 5 → ∀ (t o : Nat), ((fieldsAt Tryd.prog 49)[i]?).map (fun f => (f.type, f.offset)) = some (t, o) → ∃ y, DataW.trod enc Tryd.prog w base sp held n t ((cs.drop o).take (Tryd.prog.cellsOf t)) = some y := by
    intro i hi6 t o he
    obtain ⟨y, hy⟩ := g i hi6
    obtain ⟨f, hf', he⟩ := Option.map_eq_some_iff.1 he
    have h1 := hi i f hf'
    simp only [Prod.mk.injEq] at he
    rw [he.1, he.2, hy] at h1
    exact ⟨y, h1⟩
  obtain ⟨y0, h0⟩ := key 0 (by decide) 3 0 (by kernel_rfl)
  obtain ⟨y1, h1⟩ := key 1 (by decide) 9 1 (by kernel_rfl)
  obtain ⟨y2, h2⟩ := key 2 (by decide) 9 2 (by kernel_rfl)
  obtain ⟨y3, h3⟩ := key 3 (by decide) 3 3 (by kernel_rfl)
  obtain ⟨y4, h4⟩ := key 4 (by decide) 3 4 (by kernel_rfl)
  rw [cellsi] at h0 h3 h4
  rw [cellsStr] at h1 h2
  obtain ⟨k, e0, _⟩ := DataW.trod_int Tryd.underlying3 h0
  obtain ⟨t, e1, _, w1⟩ := DataW.trod_string Tryd.underlying9 h1
  obtain ⟨a, e2, _, w2⟩ := DataW.trod_string Tryd.underlying9 h2
  obtain ⟨o, e3, _⟩ := DataW.trod_int Tryd.underlying3 h3
  obtain ⟨m, e4, _⟩ := DataW.trod_int Tryd.underlying3 h4
  refine ⟨⟨k, t, a, o, m⟩, w1, w2, ?_⟩
  have d5 : cs.drop 5 = [] := List.drop_of_length_le (by omega)
  have d4 : cs.drop 4 = [.int .i64 m] := by rw [peel1 e4, d5]
  have d3 : cs.drop 3 = [.int .i64 o, .int .i64 m] := by rw [peel1 e3, d4]
  have d2 : cs.drop 2 = [.string a, .int .i64 o, .int .i64 m] := by rw [peel1 e2, d3]
  have d1 : cs.drop 1 = [.string t, .string a, .int .i64 o, .int .i64 m] := by rw [peel1 e1, d2]
  have d0 : cs = .int .i64 k :: cs.drop 1 := peel1 (i := 0) e0
  rw [d0, d1]
  rfl
theorem spot_none {p : Addr} {v : Value} (h : w.cell? p = some v) : p.spot = none := by
  unfold World.cell? at h
  split at h
  · split at h
    · cases h
    · rename_i hs
      cases hp : p.spot with
      | none => rfl
      | some s => rw [hp] at hs; simp at hs
  · cases h
theorem open_acts {v : Value} {d : DataW H} {ps : List MemPlace} (hv : ∃ A l c, v = .slice A l c) (h : DataW.Trod enc Tryd.prog w 0 (fun _ => true) true 41 v d ps) :
    ∃ (A : Option Addr) (its : List Act) (cap : Nat), v = .slice A its.length cap ∧ its.length ≤ maxLen ∧ ActsAt w A its := by
  obtain ⟨A, l, c, rfl⟩ := hv
  obtain ⟨fuel, hf⟩ := h
  rcases open_slice Tryd.underlying41 hf with ⟨hcs, _⟩ | ⟨a, len, cap, m, n, D, Pl, hcs, _, hl, hm, hmm, _, hx⟩
  · simp [Value.cells] at hcs
    obtain ⟨rfl, rfl, rfl⟩ := hcs
    exact ⟨none, [], 0, rfl, by simp, fun j it hj => by simp at hj⟩
  · simp [Value.cells] at hcs
    obtain ⟨rfl, rfl, rfl⟩ := hcs
    simp only [if_true] at hmm
    subst hmm
    rw [cellsAct] at hx
    have hex : ∀ i, i < l → ∃ it : Act, it.t.size ≤ maxLen ∧ it.a.size ≤ maxLen ∧ ∀ j u, (actC it)[j]? = some u → w.cell? ((a.add (i * 5)).add j) = some u := by
      intro i hi
      obtain ⟨cs', hc, ht⟩ := hx i (by omega)
      obtain ⟨it, h1, h2, rfl⟩ := act_open ht
      obtain ⟨_, hlen, hat⟩ := World.cells?_some hc
      refine ⟨it, h1, h2, fun j u hu => ?_⟩
      have hj : j < 5 := by
        have := (List.getElem?_eq_some_iff.1 hu).1
        exact this
      rw [hat j hj]; exact hu
    let F : Nat → Act := fun i => if h : i < l then (hex i h).choose else ⟨0, ⟨#[]⟩, ⟨#[]⟩, 0, 0⟩
    refine ⟨some a, (List.range l).map F, _, by rw [List.length_map, List.length_range], by rw [List.length_map, List.length_range]; omega, fun j it hj => ?_⟩
    have hjl : j < l := by
      have := (List.getElem?_eq_some_iff.1 hj).1
      simpa using this
    have hit : it = (hex j hjl).choose := by
      simp [hjl] at hj
      rw [← hj]
      simp [F, hjl]
    obtain ⟨h1, h2, h3⟩ := (hex j hjl).choose_spec
    rw [← hit] at h1 h2 h3
    have hs : a.spot = none := by
      have h0 := (hex 0 (by omega)).choose_spec.2.2 0 _ rfl
      exact spot_none h0
    obtain ⟨B, o, s⟩ := a
    simp only at hs
    subst hs
    simp only [Addr.add_mid] at h3
    have c0 := h3 0 _ rfl
    exact ⟨h1, h2, B, o, rfl, block_lt_of_cell c0, h3⟩
theorem open_cfg {v : Value} {d : DataW H} {ps : List MemPlace} (h : DataW.Trod enc Tryd.prog w 0 (fun _ => true) true 27 v d ps) :
    ∃ n t l : Int, v = .agg #[.int .i64 n, .int .i64 t, .int .i64 l] := by
  obtain ⟨fuel, hf⟩ := h
  obtain ⟨xs, n, _, hx, hl, hxl, hi⟩ := DataW.trod_struct fieldsC_is hf
  rw [fieldsC_size] at hxl
  rw [cellsCfg] at hl
  have g : ∀ i, i < 3 → ∃ y, xs[i]? = some y := fun i h => ⟨xs[i]'(by rw [hxl]; exact h), List.getElem?_eq_getElem _⟩
  have key : ∀ i, i < 3 → ∀ (t o : Nat), ((fieldsAt Tryd.prog 27)[i]?).map (fun f => (f.type, f.offset)) = some (t, o) → ∃ y, DataW.trod (fun x => enc x) Tryd.prog w 0 (fun _ => true) true n t ((v.cells.toList.drop o).take (Tryd.prog.cellsOf t)) = some y := by
    intro i hi6 t o he
    obtain ⟨y, hy⟩ := g i hi6
    obtain ⟨f, hf', he⟩ := Option.map_eq_some_iff.1 he
    have h1 := hi i f hf'
    simp only [Prod.mk.injEq] at he
    rw [he.1, he.2, hy] at h1
    exact ⟨y, h1⟩
  obtain ⟨y0, h0⟩ := key 0 (by decide) 3 0 (by kernel_rfl)
  obtain ⟨y1, h1⟩ := key 1 (by decide) 3 1 (by kernel_rfl)
  obtain ⟨y2, h2⟩ := key 2 (by decide) 3 2 (by kernel_rfl)
  rw [cellsi] at h0 h1 h2
  obtain ⟨a, e0, _⟩ := DataW.trod_int Tryd.underlying3 h0
  obtain ⟨b, e1, _⟩ := DataW.trod_int Tryd.underlying3 h1
  obtain ⟨c, e2, _⟩ := DataW.trod_int Tryd.underlying3 h2
  have d3 : v.cells.toList.drop 3 = [] := List.drop_of_length_le (by omega)
  have d2 : v.cells.toList.drop 2 = [.int .i64 c] := by rw [peel1 e2, d3]
  have d1 : v.cells.toList.drop 1 = [.int .i64 b, .int .i64 c] := by rw [peel1 e1, d2]
  have d0 : v.cells.toList = .int .i64 a :: v.cells.toList.drop 1 := peel1 (i := 0) e0
  rw [d1] at d0
  refine ⟨a, b, c, ?_⟩
  cases v with
  | agg cs =>
    congr 1
    exact Array.ext' (by simpa [Value.cells] using d0)
  | _ => simp [Value.cells] at hl
end
end
end Go.Proofs.YtlkgdnmfgcmldaaDoor
