/- The walks of poly's num, times, plus. -/
import Derived.Test.YtfoljmpphbhobaaDoorPol0
import Derived.Test.YtfoljmpphbhobaaDoorShelf
import Derived.Laws.Externs
import Derived.Shelf.Spec.BitsCarry
namespace Go.Proofs.YtfoljmpphbhobaaDoor
open Go.RowKit Go.Spk
set_option linter.unusedVariables false
theorem run_add64 (x y c : Nat) (hc : c ≤ 1) (w : World) :
    (callFunc 74 #[.int .u64 x, .int .u64 y, .int .u64 c]).run Tryd.prog w = .ok (.value (.tuple #[.int .u64 (aS x y c : Nat), .int .u64 (aC x y c : Nat)])) w := by
  rw [run_callFunc_extern Tryd.func74 (by kernel_rfl) (by kernel_rfl) (by kernel_rfl) (e := add64Entry) (by kernel_rfl), Go.run_add64 x y c (by omega) (by omega) (by omega) (by omega)]
  simp only [Result.andThen, aS, aC]
  congr 5 <;> omega
theorem run_sub64 (x y b : Nat) (hb : b ≤ 1) (w : World) :
    (callFunc 82 #[.int .u64 x, .int .u64 y, .int .u64 b]).run Tryd.prog w = .ok (.value (.tuple #[.int .u64 (sS x y b : Nat), .int .u64 (sC x y b : Nat)])) w := by
  rw [run_callFunc_extern Tryd.func82 (by kernel_rfl) (by kernel_rfl) (by kernel_rfl) (e := sub64Entry) (by kernel_rfl), Go.Proofs.run_sub64 x y b hb]
  rfl
theorem u64_shl8_or (x b : Int) (h0 : 0 ≤ x) (h1 : x < 72057594037927936) (b0 : 0 ≤ b) (b1 : b ≤ 255) : bits .or .u64 (x * 256) b = b + 256 * x := by
  obtain ⟨n, rfl⟩ := Int.eq_ofNat_of_zero_le h0
  obtain ⟨m, rfl⟩ := Int.eq_ofNat_of_zero_le b0
  rw [show (n : Int) * 256 = ((n * 256 : Nat) : Int) by omega, u64_or_nat _ _ (by omega) (by omega), nat_join 8 _ _ (by omega) (by omega)]
  omega
theorem nb_drop (ws : List Int) (k : Nat) (h : k < ws.length) : nb (ws.drop k) = ix ws k + 256 * nb (ws.drop (k + 1)) := by
  rw [List.drop_eq_getElem_cons h, nb]
  simp [ix, List.getD, h]
theorem nb_small (ws : List Int) (k : Nat) (h : U8s ws) (hl : ws.length ≤ 8) (hk : 0 < k) : 0 ≤ nb (ws.drop k) ∧ nb (ws.drop k) < 72057594037927936 := by
  have h1 := nb_bd (ws.drop k) (fun b hb => mem_of_U8s h b (List.mem_of_mem_drop hb))
  refine ⟨h1.1, Int.lt_of_lt_of_le h1.2 ?_⟩
  have : 256 ^ (ws.drop k).length ≤ 256 ^ 7 := Nat.pow_le_pow_right (by decide) (by rw [List.length_drop]; omega)
  have h2 : ((256 ^ (ws.drop k).length : Nat) : Int) ≤ ((256 ^ 7 : Nat) : Int) := by exact_mod_cast this
  have h3 : ((256 ^ (ws.drop k).length : Nat) : Int) = (256 : Int) ^ (ws.drop k).length := by simp
  omega
set_option maxRecDepth 100000 in
set_option maxHeartbeats 1000000 in
theorem num_calls (s : ByteArray) (hs : s.size ≤ 8) (w : World) :
    Calls Tryd.prog 40 #[.string s] w fun e w' => e = .returned (.int .u64 (nb (bI s))) ∧ w = w' := by
  have gs : ∀ (n : Nat) (h : n < s.size), ((s[n]'h).toNat : Int) = ix (bI s) n := fun n h => (ix_bI s n h).symm
  go_enter Tryd.func40, Tryd.ntmps40
  go_wp2_with fail
  go_loop [3, 4] (fun x i => ∃ k : Nat, k ≤ s.size ∧ i = .int .i64 ((k : Int) - 1) ∧ x = .int .u64 (nb ((bI s).drop k))) (fun _ i => (intOf i + 1).toNat)
  case atStart => exact ⟨s.size, by omega, rfl, by rw [List.drop_of_length_le (by rw [bI_length]; exact Nat.le_refl _)]; rfl⟩
  case round =>
    obtain ⟨k, hk, rfl, rfl⟩ := hrel
    by_cases hlt : k = 0
    · subst hlt
      rw [List.drop_zero]
      go_wp2_with fail
      go_ret
      exact ⟨rfl, rfl⟩
    · obtain ⟨m, rfl⟩ : ∃ m, k = m + 1 := ⟨k - 1, by omega⟩
      have i1 : ((m + 1 : Nat) : Int) - 1 = m := by omega
      have i2 : (m : Int) < s.size := by omega
      have hu := U8s_bI s m
      obtain ⟨u0, u1⟩ := hu
      obtain ⟨v0, v1⟩ := nb_small (bI s) (m + 1) (U8s_bI s) (by rw [bI_length]; exact hs) (by omega)
      have hv := nb_drop (bI s) m (by rw [bI_length]; omega)
      obtain ⟨v, hve⟩ : ∃ v, v = nb ((bI s).drop (m + 1)) := ⟨_, rfl⟩
      rw [← hve] at v0 v1 hv ⊢
      have ho := u64_shl8_or v (ix (bI s) m) v0 v1 u0 u1
      rw [← hv] at ho
      have HV := Lib.hid hv
      clear hve hv
      go_wp2_with fail
      go_round
      case rel => exact ⟨m, by omega, rfl, rfl⟩
      case measure => simp [intOf]
/-- A wide number. -/
def wideV (lo hi : Nat) : Value := .agg #[.int .u64 lo, .int .u64 hi]
set_option maxRecDepth 100000 in
set_option maxHeartbeats 1000000 in
theorem times_calls (x y : Nat) (hx : Wd x) (hy : Wd y) (w : World) :
    Calls Tryd.prog 75 #[.int .u64 x, .int .u64 y] w fun e w' => e = .returned (wideV (loW x y) (hiW x y)) ∧ Below w.heap.size w w' := by
  have HX := Lib.hid hx; have HY := Lib.hid hy
  clear hx hy
  go_enter Tryd.func75, Tryd.ntmps75
  go_wp2_with fail
  refine (Tryd.bits_Mul64 x y HX.out HY.out _).mono ?_
  rw [show x * y / 18446744073709551616 = hiW x y from rfl, show x * y % 18446744073709551616 = loW x y from rfl]
  rintro e w1 ⟨rfl, rfl⟩
  go_wp2_with fail
  exact bodyPost_ret (v := wideV (loW x y) (hiW x y)) (by simp [results, Tryd.results75, go_sem, wideV]) rfl ⟨rfl, (Below.refl _ _).alloc (Nat.le_refl _) _⟩
set_option maxRecDepth 100000 in
set_option maxHeartbeats 1000000 in
theorem plus_calls (a b c d : Nat) (ha : Wd a) (hc : Wd c) (w : World) :
    Calls Tryd.prog 76 #[wideV a b, wideV c d] w fun e w' => e = .returned (wideV (aS a c 0) (aS b d (aC a c 0))) ∧ Below w.heap.size w w' := by
  have h1 := fun W => run_add64 a c 0 (by decide) W
  have h2 := fun W => run_add64 b d (aC a c 0) (aC_le _ _ _ ha hc (by decide)) W
  rw [show ((0 : Nat) : Int) = 0 from rfl] at h1
  unfold wideV
  go_enter Tryd.func76, Tryd.ntmps76
  go_wp2_with fail
  exact bodyPost_ret (v := wideV (aS a c 0) (aS b d (aC a c 0))) (by simp [results, Tryd.results76, go_sem, wideV]) rfl ⟨rfl, (((Below.refl _ _).alloc (Nat.le_refl _) _).alloc (by simp) _).alloc (by simp; omega) _⟩
end Go.Proofs.YtfoljmpphbhobaaDoor
