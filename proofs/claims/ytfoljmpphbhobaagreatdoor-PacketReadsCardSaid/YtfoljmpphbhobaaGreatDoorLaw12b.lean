/- The walk of PacketParts: it answers true. -/
import Derived.Test.YtfoljmpphbhobaaGreatDoorLaw12a
namespace Go.Proofs.YtfoljmpphbhobaaGreatDoor
open Go.RowKit Go.Spk
set_option linter.unusedVariables false
attribute [local go_sem ↓] Go.wp_at_zero Go.wp_at_succ
/-- An Item: is it a key, which, a payload. -/
structure Itm where
  lock : Bool
  key : List Int
  s : ByteArray
/-- A slice of Items, as it lies in memory. -/
def ItemsAt (w : World) (A : Option Addr) (its : List Itm) : Prop :=
  ∀ j it, its[j]? = some it → it.key.length = 32 ∧ U8s it.key ∧ ∃ B o, A = some ⟨B, o, none⟩ ∧ B < w.heap.size ∧ w.cell? ⟨B, o + j * 34, none⟩ = some (.bool it.lock) ∧ w.rangeAt B (o + j * 34 + 1) (it.key.map (Value.int .u8)) ∧ w.cell? ⟨B, o + j * 34 + 33, none⟩ = some (.string it.s)
theorem ItemsAt.below {w w' : World} {A : Option Addr} {its : List Itm} (h : ItemsAt w A its) (hb : Below w.heap.size w w') : ItemsAt w' A its := by
  intro j it hj
  obtain ⟨h1, h2, B, o, h3, h4, h5, h6, h7⟩ := h j it hj
  exact ⟨h1, h2, B, o, h3, Nat.lt_of_lt_of_le h4 hb.size, (hb.cell (p := ⟨B, _, none⟩) h4).trans h5, rangeAt_below h6 hb, (hb.cell (p := ⟨B, _, none⟩) h4).trans h7⟩
def szOf : Value → Nat
  | .string s => s.size
  | _ => 0
theorem pack_size (b : Bool) (ks : List Int) (n : Nat) (p P : ByteArray) (hP : P = strOfNums (packI b ks n (bI p))) (hl : p.size ≤ 100) : P.size ≤ 132 := by
  have := padP_bd b p.size
  rw [hP, str_size, packI_length, bI_length]
  unfold allR tagN
  split <;> omega
theorem part_waits (b : Bool) (ks : List Int) (n : Nat) (p P qs ps : ByteArray) (hP : P = strOfNums (packI b ks n (bI p))) (h1 : 1 ≤ p.size) (hl : p.size ≤ 32768) (hq : bI P = bI qs ++ bI ps) (hp : 1 ≤ ps.size) :
    readI b ks n (bI qs) = (0, false, [], bI qs) := by
  have e : bI P = packI b ks n (bI p) := by rw [hP, bI_str (packI_mem b ks n _ (U8s_bI p))]
  have e2 : bI qs = (packI b ks n (bI p)).take qs.size := by rw [← e, hq, List.take_left' (bI_length qs)]
  have hk : qs.size < (packI b ks n (bI p)).length := by rw [← e, hq, List.length_append, bI_length, bI_length]; omega
  have h := read_part b ks n (bI p) (by rw [bI_length]; exact h1) (by rw [bI_length]; exact hl) qs.size hk
  rw [← e2] at h
  exact h
theorem parts_move (P qs ps : ByteArray) (c : Nat) (h : bI P = bI qs ++ bI ps) : bI P = bI (qs ++ ps.extract 0 c) ++ bI (ps.extract c ps.size) := by
  rw [h, bI_cat, bI_mid, bI_cut, List.append_assoc]
  simp
theorem ext_none (s : ByteArray) : s.extract s.size s.size = ⟨#[]⟩ := by
  apply bI_ext
  rw [bI_cut]
  have := bI_length s
  rw [List.drop_of_length_le (by omega)]
  rfl
theorem size_zero {s : ByteArray} (h : s.size = 0) : s = ⟨#[]⟩ := by
  apply bI_ext
  have : (bI s).length = 0 := by rw [bI_length]; exact h
  rw [List.length_eq_zero_iff.1 this]
  rfl
end Go.Proofs.YtfoljmpphbhobaaGreatDoor
