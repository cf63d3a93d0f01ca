/- What came in reads behind the call as it read before, where the call left old memory alone; a struct of the law's opened. -/
import Derived.Test.YtlkgdnmfgcmldaaDoorA1
import Derived.Test.YtlkgdnmfgcmldaaDoorRows
import Derived.ChangeStays
import Derived.ChangeMaps5
namespace Go.Spk
open Go.RowKit Go.ChangeShapes Go.WideShapes
theorem same_of_below {w w' : World} (hb : Below w.heap.size w w') (p : MemPlace) (hp : p.block < w.heap.size) : w.sameAt w' p := by
  cases p with
  | cell b off => exact hb.cell (p := ⟨b, off, none⟩) hp
  | map b => exact hb.block b hp
theorem args_stay {H : Type} {enc : TypeId × Value → H} {P : Program} {w w' : World} {sp : Nat → Bool} {T : TypeId → Prop} (K : Kids P T) (hsz : ∀ {t e : TypeId}, T t → P.underlying t = some (.slice e) → 0 < P.cellsOf e)
    (hb : Below w.heap.size w w') : ∀ (ts : List TypeId) (vs : List Value) (ds : List (DataW H)) (ps : List MemPlace), (∀ t ∈ ts, T t) → (∀ p ∈ ps, p.block < w.heap.size) → (∀ p ∈ ps, sp p.block = true) →
      DataW.TrodAll enc P w 0 (fun _ => true) true ts vs ds ps → DataW.TrodAll enc P w' 0 sp true ts vs ds ps
  | [], [], [], ps, _, _, _, h => h
  | t :: ts, v :: vs, d :: ds, ps, ht, hl, hs, h => by
    obtain ⟨p, q, ⟨n, h0⟩, h1, rfl⟩ := h
    refine ⟨p, q, ⟨n, ?_⟩, args_stay K hsz hb ts vs ds q (fun t h => ht t (by simp [h])) (fun x hx => hl x (by simp [hx])) (fun x hx => hs x (by simp [hx])) h1, rfl⟩
    exact DataW.trod_stays K hsz (fun h => by cases h) (ht t (by simp)) h0 (fun x hx => same_of_below hb x (hl x (by simp only at hx; simp [hx]))) (fun x hx => hs x (by simp only at hx; simp [hx]))
  | [], v :: vs, ds, ps, _, _, _, h => by cases ds <;> exact h.elim
  | [], [], d :: ds, ps, _, _, _, h => h.elim
  | t :: ts, [], ds, ps, _, _, _, h => by cases ds <;> exact h.elim
  | t :: ts, v :: vs, [], ps, _, _, _, h => h.elim
end Go.Spk
namespace Go.Proofs.YtlkgdnmfgcmldaaDoor
open Go.ChangeShapes Go.WideShapes Go.RowKit Go.Spk
theorem kids : Kids Tryd.prog (· < Tryd.prog.types.size) := kids_rows (by kernel_rfl) (by kernel_rfl)
def sliceB (P : Program) (t : TypeId) : Bool := match P.underlying t with | some (.slice e) => decide (0 < P.cellsOf e) | _ => true
theorem slices_all : (List.range Tryd.prog.types.size).all (sliceB Tryd.prog) = true := by kernel_rfl
theorem slices_sized {t e : TypeId} (ht : t < Tryd.prog.types.size) (h : Tryd.prog.underlying t = some (.slice e)) : 0 < Tryd.prog.cellsOf e := by
  have := List.all_eq_true.1 slices_all t (by simpa using ht)
  unfold sliceB at this
  rw [h] at this
  simpa using this
end Go.Proofs.YtlkgdnmfgcmldaaDoor
