/- What a packet is, and how one is read: lists of integers alone. -/
import Derived.Test.YtfoljmpphbhobaaGreatDoorWire5
namespace Go.Proofs.YtfoljmpphbhobaaGreatDoor
open Go.RowKit Go.Spk
set_option linter.unusedVariables false
/-- The nonce of a packet. -/
def nonceN (n : Nat) : List Int := beT 0 4 4 ++ beT n 8 8
def aheadN (b : Bool) : Nat := if b then 0 else 4
def tagN (b : Bool) : Nat := if b then 16 else 0
def padP (b : Bool) (len : Nat) : Nat := 4 + (8 - (aheadN b + (len + 1) + 4) % 8) % 8
def bodyP (b : Bool) (ws : List Int) : List Int := [(padP b ws.length : Int)] ++ ws ++ List.replicate (padP b ws.length) 0
def sizeP (b : Bool) (len : Nat) : List Int := beT (len + 1 + padP b len) 4 4
def outP (b : Bool) (ks : List Int) (n : Nat) (ws : List Int) : List Int := if b then sealI ks (nonceN n) (bodyP b ws) (sizeP b ws.length) else bodyP b ws
def packI (b : Bool) (ks : List Int) (n : Nat) (ws : List Int) : List Int := sizeP b ws.length ++ outP b ks n ws
/-- A packet's length as it is told. -/
def lenR (ws : List Int) : Nat := (numT ws 4).toNat
def formB (b : Bool) (m : Nat) : Bool := decide (m + aheadN b < aheadN b * 2 + 8) || decide ((m + aheadN b) % 8 ≠ 0)
def allR (b : Bool) (m : Nat) : Nat := 4 + m + tagN b
def rawR (b : Bool) (m : Nat) (ws : List Int) : List Int := (ws.drop 4).take (m + tagN b)
def bodyR (b : Bool) (ks : List Int) (n m : Nat) (ws : List Int) : List Int := if b then openS ks (nonceN n) (rawR b m ws) (ws.take 4) else rawR b m ws
def bodyC (b : Bool) (ks : List Int) (n m : Nat) (ws : List Int) : Int := if b then openC ks (nonceN n) (rawR b m ws) (ws.take 4) else 0
def padB (bs : List Int) : Bool := decide (ix bs 0 < 4) || decide ((bs.length : Int) ≤ ix bs 0 + 1)
/-- What Next answers: an error's number, is there a payload, which, what is left. -/
def readI (b : Bool) (ks : List Int) (n : Nat) (ws : List Int) : Int × Bool × List Int × List Int :=
  if ws.length < 4 then (0, false, [], ws)
  else if 33024 < lenR ws then (4, false, [], [])
  else if formB b (lenR ws) then (3, false, [], [])
  else if ws.length < allR b (lenR ws) then (0, false, [], ws)
  else if bodyC b ks n (lenR ws) ws ≠ 0 then (bodyC b ks n (lenR ws) ws, false, [], [])
  else if padB (bodyR b ks n (lenR ws) ws) then (3, false, [], [])
  else (0, true, ((bodyR b ks n (lenR ws) ws).take ((bodyR b ks n (lenR ws) ws).length - (ix (bodyR b ks n (lenR ws) ws) 0).toNat)).drop 1, ws.drop (allR b (lenR ws)))
theorem num_be (n : Nat) (hn : n < 4294967296) (zs : List Int) : numT (beT n 4 4 ++ zs) 4 = n := by
  simp only [beT, List.nil_append, List.cons_append, numT, ix, List.getD_cons_zero, List.getD_cons_succ]
  simp
  omega
theorem sizeP_length (b : Bool) (len : Nat) : (sizeP b len).length = 4 := beT_length _ _ _
theorem padP_bd (b : Bool) (len : Nat) : 4 ≤ padP b len ∧ padP b len ≤ 11 := by unfold padP; omega
theorem padP_mod (b : Bool) (len : Nat) : (len + 1 + padP b len + aheadN b) % 8 = 0 := by unfold padP; omega
theorem aheadN_or (b : Bool) : (aheadN b = 0 ∧ tagN b = 16) ∨ (aheadN b = 4 ∧ tagN b = 0) := by cases b <;> simp [aheadN, tagN]
theorem bodyP_length (b : Bool) (ws : List Int) : (bodyP b ws).length = ws.length + 1 + padP b ws.length := by simp [bodyP]; omega
theorem bodyP_mem (b : Bool) (ws : List Int) (hw : U8s ws) : ∀ z ∈ bodyP b ws, 0 ≤ z ∧ z ≤ 255 := by
  intro z hz
  have := padP_bd b ws.length
  simp only [bodyP, List.mem_append, List.mem_singleton, List.mem_replicate] at hz
  rcases hz with (rfl | hz) | ⟨_, rfl⟩
  · omega
  · exact mem_of_U8s hw z hz
  · omega
theorem outP_length (b : Bool) (ks : List Int) (n : Nat) (ws : List Int) : (outP b ks n ws).length = ws.length + 1 + padP b ws.length + tagN b := by
  unfold outP tagN
  cases b
  · simp [bodyP_length]
  · simp [sealI_length, bodyP_length]
theorem packI_length (b : Bool) (ks : List Int) (n : Nat) (ws : List Int) : (packI b ks n ws).length = allR b (ws.length + 1 + padP b ws.length) := by
  unfold packI allR; rw [List.length_append, sizeP_length, outP_length]; omega
theorem lenR_pack (b : Bool) (len : Nat) (hl : len ≤ 32768) (zs : List Int) : lenR (sizeP b len ++ zs) = len + 1 + padP b len := by
  have := padP_bd b len
  unfold lenR sizeP; rw [num_be _ (by omega)]; rfl
theorem form_pack (b : Bool) (len : Nat) (h1 : 1 ≤ len) : formB b (len + 1 + padP b len) = false := by
  have h := padP_mod b len
  have h2 := padP_bd b len
  unfold formB
  rw [Bool.or_eq_false_iff]
  constructor
  · rw [decide_eq_false_iff_not]
    rcases aheadN_or b with ⟨e, _⟩ | ⟨e, _⟩ <;> rw [e] at h ⊢ <;> omega
  · rw [decide_eq_false_iff_not]; omega
theorem numT_congr {xs ys : List Int} (k : Nat) (h : ∀ i, i < k → ix xs i = ix ys i) : numT xs k = numT ys k := by
  induction k with
  | zero => rfl
  | succ k ih => rw [numT, numT, h k (by omega), ih (fun i hi => h i (by omega))]
theorem ix_take (xs : List Int) (k i : Nat) (h : i < k) : ix (xs.take k) i = ix xs i := by
  unfold ix; simp [List.getD, h]
theorem lenR_prefix (ws : List Int) (k : Nat) (h : 4 ≤ k) : lenR (ws.take k) = lenR ws := by
  unfold lenR; rw [numT_congr 4 (fun i hi => ix_take ws k i (by omega))]
/-- A part of a packet waits. -/
theorem read_part (b : Bool) (ks : List Int) (n : Nat) (ws : List Int) (h1 : 1 ≤ ws.length) (hl : ws.length ≤ 32768) (k : Nat) (hk : k < (packI b ks n ws).length) :
    readI b ks n ((packI b ks n ws).take k) = (0, false, [], (packI b ks n ws).take k) := by
  have hlen : ((packI b ks n ws).take k).length = k := by rw [List.length_take]; omega
  have h2 := padP_bd b ws.length
  unfold readI
  rw [hlen]
  by_cases h4 : k < 4
  · rw [if_pos h4]
  · rw [if_neg h4, lenR_prefix _ _ (by omega), show packI b ks n ws = sizeP b ws.length ++ outP b ks n ws from rfl, lenR_pack b _ hl, if_neg (by omega), form_pack b _ h1, if_neg (by simp), if_pos (by rw [← packI_length b ks n ws]; exact hk)]
theorem bodyC_or (b : Bool) (ks : List Int) (n m : Nat) (ws : List Int) : bodyC b ks n m ws = 0 ∨ bodyC b ks n m ws = 2 ∨ bodyC b ks n m ws = 5 := by
  unfold bodyC
  cases b
  · left; rfl
  · unfold openC
    simp only [if_true]
    split
    · right; left; rfl
    · split
      · left; rfl
      · right; right; rfl
theorem raw_pack (b : Bool) (ks : List Int) (n : Nat) (ws zs : List Int) : rawR b (ws.length + 1 + padP b ws.length) (packI b ks n ws ++ zs) = outP b ks n ws := by
  unfold rawR packI
  rw [List.append_assoc, List.drop_append_of_le_length (by rw [sizeP_length]; exact Nat.le_refl _), List.drop_of_length_le (by rw [sizeP_length]; exact Nat.le_refl _), List.nil_append, ← outP_length b ks n ws, List.take_left']
  rfl
/-- A packet, and what stands behind it: it is read. -/
theorem read_pack (b : Bool) (ks : List Int) (n : Nat) (ws zs : List Int) (hw : U8s ws) (h1 : 1 ≤ ws.length) (hl : ws.length ≤ 32768) :
    readI b ks n (packI b ks n ws ++ zs) = (0, true, ws, zs) := by
  have h2 := padP_bd b ws.length
  have hL : lenR (packI b ks n ws ++ zs) = ws.length + 1 + padP b ws.length := by
    rw [show packI b ks n ws ++ zs = sizeP b ws.length ++ (outP b ks n ws ++ zs) by simp [packI]]
    exact lenR_pack b _ hl _
  have hraw := raw_pack b ks n ws zs
  have htk : (packI b ks n ws ++ zs).take 4 = sizeP b ws.length := by
    unfold packI
    rw [List.append_assoc, List.take_append_of_le_length (by rw [sizeP_length]; exact Nat.le_refl _), List.take_of_length_le (by rw [sizeP_length]; exact Nat.le_refl _)]
  have hB : bodyR b ks n (ws.length + 1 + padP b ws.length) (packI b ks n ws ++ zs) = bodyP b ws := by
    unfold bodyR
    rw [hraw, htk]
    cases b
    · rfl
    · exact (open_seal ks (nonceN n) (bodyP true ws) (sizeP true ws.length) (U8s_of_mem (bodyP_mem true ws hw))).1
  have hC : bodyC b ks n (ws.length + 1 + padP b ws.length) (packI b ks n ws ++ zs) = 0 := by
    unfold bodyC
    rw [hraw, htk]
    cases b
    · rfl
    · exact (open_seal ks (nonceN n) (bodyP true ws) (sizeP true ws.length) (U8s_of_mem (bodyP_mem true ws hw))).2
  have hall : (packI b ks n ws ++ zs).length = allR b (ws.length + 1 + padP b ws.length) + zs.length := by rw [List.length_append, packI_length]
  have hx : ix (bodyP b ws) 0 = (padP b ws.length : Int) := rfl
  unfold readI
  rw [if_neg (by rw [hall]; unfold allR; omega), hL, if_neg (by omega), form_pack b _ h1, if_neg (by simp), if_neg (by rw [hall]; omega), hC, if_neg (by simp), hB]
  have hp : padB (bodyP b ws) = false := by
    unfold padB
    rw [Bool.or_eq_false_iff, decide_eq_false_iff_not, decide_eq_false_iff_not, hx, bodyP_length]
    omega
  rw [hp, if_neg (by simp), hx, bodyP_length]
  have e1 : ws.length + 1 + padP b ws.length - ((padP b ws.length : Nat) : Int).toNat = ([(padP b ws.length : Int)] ++ ws).length := by simp
  rw [e1]
  unfold bodyP
  rw [List.take_left' rfl, ← packI_length b ks n ws, List.drop_left' rfl]
  rfl
end Go.Proofs.YtfoljmpphbhobaaGreatDoor
