/- What poly's Sum reckons: plain laws. -/
import Derived.Test.YtfoljmpphbhobaaDoorPol0b
import Derived.Test.YtfoljmpphbhobaaDoorNum11
namespace Go.Proofs.YtfoljmpphbhobaaDoor
open Go.RowKit Go.Spk
set_option linter.unusedVariables false
theorem nb_append (a b : List Int) : nb (a ++ b) = nb a + 256 ^ a.length * nb b := by
  induction a with
  | nil => simp [nb]
  | cons x a ih =>
    rw [List.cons_append, nb, ih, nb, List.length_cons, Int.pow_succ]
    rw [Int.mul_add, ← Int.add_assoc, Int.mul_comm (256 ^ a.length) 256, Int.mul_assoc]
theorem nb_zeros (n : Nat) : nb (List.replicate n 0) = 0 := by
  induction n with
  | zero => rfl
  | succ n ih => rw [List.replicate_succ, nb, ih]; rfl
theorem nb_eight (a b : List Int) (h : a.length = 8) : nb (a ++ b) = nb a + 18446744073709551616 * nb b := by
  rw [nb_append, h]
  rfl
/-- A word of bytes. -/
def nW (ws : List Int) : Nat := (nb ws).toNat
theorem nW_int (ws : List Int) (h : U8s ws) : (nW ws : Int) = nb ws := by
  have := (nb_bd ws (mem_of_U8s h)).1
  unfold nW; omega
theorem nW_wd (ws : List Int) (h : U8s ws) (hl : ws.length ≤ 8) : Wd (nW ws) := by
  have h1 := nb_bd ws (mem_of_U8s h)
  have : 256 ^ ws.length ≤ 256 ^ 8 := Nat.pow_le_pow_right (by decide) hl
  have h2 : ((256 ^ ws.length : Nat) : Int) ≤ ((256 ^ 8 : Nat) : Int) := by exact_mod_cast this
  have h3 : ((256 ^ ws.length : Nat) : Int) = (256 : Int) ^ ws.length := by simp
  unfold nW Wd
  omega
theorem U8s_append {a b : List Int} (ha : U8s a) (hb : U8s b) : U8s (a ++ b) := U8s_of_mem fun x hx => by
  rcases List.mem_append.1 hx with h | h
  · exact mem_of_U8s ha x h
  · exact mem_of_U8s hb x h
theorem U8s_take {a : List Int} (ha : U8s a) (n : Nat) : U8s (a.take n) := U8s_of_mem fun x hx => mem_of_U8s ha x (List.mem_of_mem_take hx)
theorem U8s_drop {a : List Int} (ha : U8s a) (n : Nat) : U8s (a.drop n) := U8s_of_mem fun x hx => mem_of_U8s ha x (List.mem_of_mem_drop hx)
theorem nW_cat (a b : List Int) (ha : U8s a) (hb : U8s b) (h : a.length = 8) : nW (a ++ b) = nW a + 18446744073709551616 * nW b := by
  have e1 := nW_int a ha; have e2 := nW_int b hb; have e3 := nW_int _ (U8s_append ha hb)
  rw [nb_eight a b h, ← e1, ← e2] at e3
  omega
theorem one_u8 : U8s [1] := U8s_of_mem (by decide)
/-- A whole part, as three words. -/
theorem part_whole (ws : List Int) (k : Nat) (hw : U8s ws) (h : 16 * k + 16 ≤ ws.length) :
    of3 (nW ((ws.drop (16 * k)).take 8)) (nW (((ws.drop (16 * k)).drop 8).take 8)) 1 = (nb (partI ws k)).toNat := by
  generalize hx : (ws.drop (16 * k)) = xs
  have hl : 16 ≤ xs.length := by rw [← hx, List.length_drop]; omega
  have hu : U8s xs := by rw [← hx]; exact U8s_drop hw _
  have e : partI ws k = xs.take 8 ++ ((xs.drop 8).take 8 ++ [1]) := by
    unfold partI
    rw [hx, ← List.append_assoc]
    congr 1
    rw [show 16 = 8 + 8 from rfl, List.take_add]
  show _ = nW (partI ws k)
  rw [e, nW_cat _ _ (U8s_take hu 8) (U8s_append (U8s_take (U8s_drop hu 8) 8) one_u8) (by rw [List.length_take]; omega), nW_cat _ _ (U8s_take (U8s_drop hu 8) 8) one_u8 (by rw [List.length_take, List.length_drop]; omega)]
  have : nW [1] = 1 := by decide
  rw [this]
  unfold of3
  omega
/-- The last part, filled up with bytes 0, as two words. -/
theorem part_last (rs : List Int) (hr : U8s rs) (hl : rs.length = 16) (n : Nat) (ps : List Int) (h : rs = ps ++ List.replicate n 0) :
    of3 (nW (rs.take 8)) (nW (rs.drop 8)) 0 = (nb ps).toNat := by
  have e : nW rs = nW ps := by
    unfold nW
    rw [h, nb_append, nb_zeros, Int.mul_zero, Int.add_zero]
  have e2 : rs = rs.take 8 ++ rs.drop 8 := (List.take_append_drop 8 rs).symm
  have e3 := nW_cat (rs.take 8) (rs.drop 8) (U8s_take hr 8) (U8s_drop hr 8) (by rw [List.length_take, hl]; rfl)
  rw [← e2, e] at e3
  show _ = nW ps
  rw [e3]
  unfold of3
  omega
/-! ### The bits of the key that are cleared -/
theorem and_byte (b m x y : Nat) (hb : b < 256) (hm : m < 256) : (b + 256 * x) &&& (m + 256 * y) = (b &&& m) + 256 * (x &&& y) := by
  apply Nat.eq_of_testBit_eq
  intro i
  have hbm : b &&& m < 2 ^ 8 := Nat.lt_of_le_of_lt Nat.and_le_left (by simpa using hb)
  rw [Nat.testBit_and, show b + 256 * x = 2 ^ 8 * x + b by omega, show m + 256 * y = 2 ^ 8 * y + m by omega, show (b &&& m) + 256 * (x &&& y) = 2 ^ 8 * (x &&& y) + (b &&& m) by omega]
  rw [Nat.testBit_two_pow_mul_add _ (by simpa using hb), Nat.testBit_two_pow_mul_add _ (by simpa using hm), Nat.testBit_two_pow_mul_add _ hbm]
  split
  · rw [Nat.testBit_and]
  · rw [Nat.testBit_and]
theorem and255 (b : Nat) (h : b < 256) : b &&& 255 = b := by rw [nat_mask8]; omega
theorem and252 (b : Nat) (h : b < 256) : b &&& 252 = b / 4 * 4 := by
  revert b; decide +kernel
def loB (ws : List Int) : List Int := [ix ws 0, ix ws 1, ix ws 2, ix ws 3 % 16, ix ws 4 / 4 * 4, ix ws 5, ix ws 6, ix ws 7 % 16]
def hiB (ws : List Int) : List Int := [ix ws 0 / 4 * 4, ix ws 1, ix ws 2, ix ws 3 % 16, ix ws 4 / 4 * 4, ix ws 5, ix ws 6, ix ws 7 % 16]
theorem eight (ws : List Int) (h : ws.length = 8) : ws = [ix ws 0, ix ws 1, ix ws 2, ix ws 3, ix ws 4, ix ws 5, ix ws 6, ix ws 7] := by
  refine ix_ext (by rw [h]; rfl) fun i hi => ?_
  rw [h] at hi
  have : i = 0 ∨ i = 1 ∨ i = 2 ∨ i = 3 ∨ i = 4 ∨ i = 5 ∨ i = 6 ∨ i = 7 := by omega
  rcases this with rfl | rfl | rfl | rfl | rfl | rfl | rfl | rfl <;> rfl
theorem nW_eight (b0 b1 b2 b3 b4 b5 b6 b7 : Nat) : nW [(b0 : Int), (b1 : Int), (b2 : Int), (b3 : Int), (b4 : Int), (b5 : Int), (b6 : Int), (b7 : Int)] =
    b0 + 256 * (b1 + 256 * (b2 + 256 * (b3 + 256 * (b4 + 256 * (b5 + 256 * (b6 + 256 * (b7 + 256 * 0))))))) := by
  unfold nW
  simp only [nb]
  omega
theorem clamp_lo (ws : List Int) (hw : U8s ws) (h : ws.length = 8) : nW ws &&& 1152921487695413247 = nW (loB ws) := by
  have a0 := hw 0; have a1 := hw 1; have a2 := hw 2; have a3 := hw 3; have a4 := hw 4; have a5 := hw 5; have a6 := hw 6; have a7 := hw 7
  conv => lhs; rw [eight ws h]
  unfold loB
  generalize ix ws 0 = c0 at *; generalize ix ws 1 = c1 at *; generalize ix ws 2 = c2 at *; generalize ix ws 3 = c3 at *
  generalize ix ws 4 = c4 at *; generalize ix ws 5 = c5 at *; generalize ix ws 6 = c6 at *; generalize ix ws 7 = c7 at *
  obtain ⟨b0, rfl⟩ := Int.eq_ofNat_of_zero_le a0.1; obtain ⟨b1, rfl⟩ := Int.eq_ofNat_of_zero_le a1.1
  obtain ⟨b2, rfl⟩ := Int.eq_ofNat_of_zero_le a2.1; obtain ⟨b3, rfl⟩ := Int.eq_ofNat_of_zero_le a3.1
  obtain ⟨b4, rfl⟩ := Int.eq_ofNat_of_zero_le a4.1; obtain ⟨b5, rfl⟩ := Int.eq_ofNat_of_zero_le a5.1
  obtain ⟨b6, rfl⟩ := Int.eq_ofNat_of_zero_le a6.1; obtain ⟨b7, rfl⟩ := Int.eq_ofNat_of_zero_le a7.1
  rw [show (b3 : Int) % 16 = ((b3 % 16 : Nat) : Int) by omega, show (b4 : Int) / 4 * 4 = ((b4 / 4 * 4 : Nat) : Int) by omega, show (b7 : Int) % 16 = ((b7 % 16 : Nat) : Int) by omega]
  rw [nW_eight, nW_eight, show (1152921487695413247 : Nat) = 255 + 256 * (255 + 256 * (255 + 256 * (15 + 256 * (252 + 256 * (255 + 256 * (255 + 256 * (15 + 256 * 0))))))) from rfl]
  rw [and_byte _ _ _ _ (by omega) (by decide), and_byte _ _ _ _ (by omega) (by decide), and_byte _ _ _ _ (by omega) (by decide), and_byte _ _ _ _ (by omega) (by decide), and_byte _ _ _ _ (by omega) (by decide), and_byte _ _ _ _ (by omega) (by decide), and_byte _ _ _ _ (by omega) (by decide), and_byte _ _ _ _ (by omega) (by decide)]
  rw [and255 _ (by omega), and255 _ (by omega), and255 _ (by omega), and255 _ (by omega), and255 _ (by omega), nat_mask4, nat_mask4, and252 _ (by omega), Nat.and_zero]
theorem clamp_hi (ws : List Int) (hw : U8s ws) (h : ws.length = 8) : nW ws &&& 1152921487695413244 = nW (hiB ws) := by
  have a0 := hw 0; have a1 := hw 1; have a2 := hw 2; have a3 := hw 3; have a4 := hw 4; have a5 := hw 5; have a6 := hw 6; have a7 := hw 7
  conv => lhs; rw [eight ws h]
  unfold hiB
  generalize ix ws 0 = c0 at *; generalize ix ws 1 = c1 at *; generalize ix ws 2 = c2 at *; generalize ix ws 3 = c3 at *
  generalize ix ws 4 = c4 at *; generalize ix ws 5 = c5 at *; generalize ix ws 6 = c6 at *; generalize ix ws 7 = c7 at *
  obtain ⟨b0, rfl⟩ := Int.eq_ofNat_of_zero_le a0.1; obtain ⟨b1, rfl⟩ := Int.eq_ofNat_of_zero_le a1.1
  obtain ⟨b2, rfl⟩ := Int.eq_ofNat_of_zero_le a2.1; obtain ⟨b3, rfl⟩ := Int.eq_ofNat_of_zero_le a3.1
  obtain ⟨b4, rfl⟩ := Int.eq_ofNat_of_zero_le a4.1; obtain ⟨b5, rfl⟩ := Int.eq_ofNat_of_zero_le a5.1
  obtain ⟨b6, rfl⟩ := Int.eq_ofNat_of_zero_le a6.1; obtain ⟨b7, rfl⟩ := Int.eq_ofNat_of_zero_le a7.1
  rw [show (b0 : Int) / 4 * 4 = ((b0 / 4 * 4 : Nat) : Int) by omega, show (b3 : Int) % 16 = ((b3 % 16 : Nat) : Int) by omega, show (b4 : Int) / 4 * 4 = ((b4 / 4 * 4 : Nat) : Int) by omega, show (b7 : Int) % 16 = ((b7 % 16 : Nat) : Int) by omega]
  rw [nW_eight, nW_eight, show (1152921487695413244 : Nat) = 252 + 256 * (255 + 256 * (255 + 256 * (15 + 256 * (252 + 256 * (255 + 256 * (255 + 256 * (15 + 256 * 0))))))) from rfl]
  rw [and_byte _ _ _ _ (by omega) (by decide), and_byte _ _ _ _ (by omega) (by decide), and_byte _ _ _ _ (by omega) (by decide), and_byte _ _ _ _ (by omega) (by decide), and_byte _ _ _ _ (by omega) (by decide), and_byte _ _ _ _ (by omega) (by decide), and_byte _ _ _ _ (by omega) (by decide), and_byte _ _ _ _ (by omega) (by decide)]
  rw [and255 _ (by omega), and255 _ (by omega), and255 _ (by omega), and255 _ (by omega), nat_mask4, nat_mask4, and252 _ (by omega), and252 _ (by omega), Nat.and_zero]
theorem loB_bd (ws : List Int) (hw : U8s ws) : nW (loB ws) < 1152921504606846976 := by
  have a0 := hw 0; have a1 := hw 1; have a2 := hw 2; have a3 := hw 3; have a4 := hw 4; have a5 := hw 5; have a6 := hw 6; have a7 := hw 7
  unfold nW loB
  simp only [nb]
  omega
theorem hiB_bd (ws : List Int) (hw : U8s ws) : nW (hiB ws) < 1152921504606846976 := by
  have a0 := hw 0; have a1 := hw 1; have a2 := hw 2; have a3 := hw 3; have a4 := hw 4; have a5 := hw 5; have a6 := hw 6; have a7 := hw 7
  unfold nW hiB
  simp only [nb]
  omega
theorem sixteen (ws : List Int) (h : ws.length = 16) : ws = [ix ws 0, ix ws 1, ix ws 2, ix ws 3, ix ws 4, ix ws 5, ix ws 6, ix ws 7, ix ws 8, ix ws 9, ix ws 10, ix ws 11, ix ws 12, ix ws 13, ix ws 14, ix ws 15] := by
  refine ix_ext (by rw [h]; rfl) fun i hi => ?_
  rw [h] at hi
  have : i = 0 ∨ i = 1 ∨ i = 2 ∨ i = 3 ∨ i = 4 ∨ i = 5 ∨ i = 6 ∨ i = 7 ∨ i = 8 ∨ i = 9 ∨ i = 10 ∨ i = 11 ∨ i = 12 ∨ i = 13 ∨ i = 14 ∨ i = 15 := by omega
  rcases this with rfl | rfl | rfl | rfl | rfl | rfl | rfl | rfl | rfl | rfl | rfl | rfl | rfl | rfl | rfl | rfl <;> rfl
theorem clamp_words (ks : List Int) (hk : U8s ks) (hl : ks.length = 32) : clampN ks = nW (loB (ks.take 8)) + 18446744073709551616 * nW (hiB ((ks.drop 8).take 8)) := by
  have h16 : (ks.take 16).length = 16 := by rw [List.length_take, hl]; rfl
  have e := sixteen _ h16
  have hu := U8s_take hk 16
  have e8 : ks.take 8 = (ks.take 16).take 8 := by rw [List.take_take]; rfl
  have e9 : (ks.drop 8).take 8 = (ks.take 16).drop 8 := by rw [List.drop_take]
  unfold clampN clampI
  rw [e8, e9]
  generalize ks.take 16 = zs at *
  rw [e]
  have u := hu
  generalize ix zs 0 = c0 at *; generalize ix zs 1 = c1 at *; generalize ix zs 2 = c2 at *; generalize ix zs 3 = c3 at *
  generalize ix zs 4 = c4 at *; generalize ix zs 5 = c5 at *; generalize ix zs 6 = c6 at *; generalize ix zs 7 = c7 at *
  generalize ix zs 8 = c8 at *; generalize ix zs 9 = c9 at *; generalize ix zs 10 = c10 at *; generalize ix zs 11 = c11 at *
  generalize ix zs 12 = c12 at *; generalize ix zs 13 = c13 at *; generalize ix zs 14 = c14 at *; generalize ix zs 15 = c15 at *
  rw [e] at u
  have a0 := u 0; have a1 := u 1; have a2 := u 2; have a3 := u 3; have a4 := u 4; have a5 := u 5; have a6 := u 6; have a7 := u 7
  have a8 := u 8; have a9 := u 9; have a10 := u 10; have a11 := u 11; have a12 := u 12; have a13 := u 13; have a14 := u 14; have a15 := u 15
  simp only [ix, List.getD_eq_getElem?_getD, List.getElem?_cons_zero, List.getElem?_cons_succ, Option.getD_some] at a0 a1 a2 a3 a4 a5 a6 a7 a8 a9 a10 a11 a12 a13 a14 a15
  simp only [sets, qsA, qsB, ix, List.getD_eq_getElem?_getD, List.getElem?_cons_zero, List.getElem?_cons_succ, Option.getD_some, List.set_cons_zero, List.set_cons_succ, loB, hiB, nW, nb, List.take_succ_cons, List.take_zero, List.drop_succ_cons, List.drop_zero]
  omega
/-! ### The rounds -/
/-- What a sum never reaches. -/
def BB : Nat := P130 + P130 / 4
theorem bb_val : BB = 1701411834604692317316873037158841057280 := by decide +kernel
theorem p130_lit : P130 = 1361129467683753853853498429727072845824 := by decide +kernel
theorem pp_lit : PP = 1361129467683753853853498429727072845819 := by decide +kernel
/-- A round keeps the bound. -/
theorem round_bd (A N R : Nat) (hA : A < BB) (hN : N < 680564733841876926926749214863536422912) (hR : R < 21267647932558653966460912964485513216) :
    (A + N) / 18446744073709551616 / 18446744073709551616 < 8 ∧ redN ((A + N) * R) < BB := by
  rw [bb_val] at *
  refine ⟨by omega, ?_⟩
  unfold redN
  rw [p130_lit]
  have h : (A + N) * R ≤ 2722258935367507707706996859454145691647 * 21267647932558653966460912964485513215 := Nat.mul_le_mul (by omega) (by omega)
  generalize (A + N) * R = v at *
  omega
theorem round_acc (A N R : Nat) (ws : List Int) (k : Nat) (h : A % PP = accN R ws k) (hN : N = (nb (partI ws k)).toNat) : redN ((A + N) * R) % PP = accN R ws (k + 1) := by
  rw [redN_mod, accN, ← h, ← hN]
  simp [Nat.mul_mod, Nat.add_mod]
theorem less_mod (A : Nat) (h : A < BB) : (if PP ≤ A then A - PP else A) = A % PP := by
  rw [bb_val] at h
  rw [pp_lit]
  split <;> omega
theorem BB_words (A : Nat) (h : A < BB) : A / 18446744073709551616 / 18446744073709551616 < 18446744073709551616 := by rw [bb_val] at h; omega
end Go.Proofs.YtfoljmpphbhobaaDoor
