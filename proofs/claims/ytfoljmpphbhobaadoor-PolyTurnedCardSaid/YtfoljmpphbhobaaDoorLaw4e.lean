/- The walk of PolyTurned: it answers true. -/
import Derived.Test.YtfoljmpphbhobaaDoorLaw4d
namespace Go.Proofs.YtfoljmpphbhobaaDoor
open Go.RowKit Go.Spk
set_option linter.unusedVariables false
theorem and_small (x : Int) (k : Nat) (hk : k < 65536) : ∃ m : Nat, m ≤ k ∧ bits .and .i64 x (k : Int) = (m : Int) := by
  refine ⟨(BitVec.ofInt 64 x).toNat &&& k, Nat.and_le_right, ?_⟩
  have h : (BitVec.ofInt 64 x).toNat &&& k ≤ k := Nat.and_le_right
  show IntKind.i64.wrap ((BitVec.ofInt 64 x &&& BitVec.ofInt 64 (k : Int)).toNat : Int) = _
  rw [BitVec.toNat_and, ofInt_u64 k (by omega), IntKind.wrap_i64]
  omega
/-- What Cut answers. -/
def cutB (s : ByteArray) (n : Nat) : ByteArray := if n < s.size then s.extract 0 n else s
theorem cutB_size (s : ByteArray) (n : Nat) : (cutB s n).size ≤ n := by
  unfold cutB
  split
  · simp; omega
  · omega
theorem cut_calls' (s : ByteArray) (n : Nat) (hn : n ≤ 1000000000) (w : World) :
    Calls Tryd.prog 16 #[.string s, .int .i64 n] w fun e w' => e = .returned (.string (cutB s n)) ∧ w' = w := by
  by_cases h : n < s.size
  · have hi : (n : Int) < s.size := by omega
    have hi2 : (n : Int) ≤ s.size := by omega
    have e : cutB s n = s.extract 0 n := by unfold cutB; rw [if_pos h]
    rw [e]
    clear e
    go_enter Tryd.func16, Tryd.ntmps16
    go_wp2
    go_ret
    exact ⟨rfl, rfl⟩
  · have hi : ¬ (n : Int) < s.size := by omega
    have e : cutB s n = s := by unfold cutB; rw [if_neg h]
    rw [e]
    clear e
    go_enter Tryd.func16, Tryd.ntmps16
    go_wp2
    go_ret
    exact ⟨rfl, rfl⟩
/-- A Turned's cells. -/
def turnRow (ks : List Int) (s x : ByteArray) (wh at_ by_ : Int) : Array Value := rowI .u8 ks ++ #[.string s, .string x, .int .i64 wh, .int .i64 at_, .int .u8 by_]
section
variable {ks : List Int} {s x : ByteArray} {wh at_ by_ : Int} (hk : ks.length = 32)
include hk
theorem turn_size : (turnRow ks s x wh at_ by_).size = 37 := by simp [turnRow, rowI, hk]
theorem turn_key (i : Nat) (hi : i < 32) : (turnRow ks s x wh at_ by_)[i]? = some (.int .u8 (ix ks i)) := by
  unfold turnRow
  rw [Array.getElem?_append_left (by rw [rowI_size, hk]; exact hi), rowI_get .u8 ks i (by omega)]
theorem turn_rest (i : Nat) : (turnRow ks s x wh at_ by_)[32 + i]? = (#[.string s, .string x, .int .i64 wh, .int .i64 at_, .int .u8 by_] : Array Value)[i]? := by
  unfold turnRow
  rw [Array.getElem?_append_right (by rw [rowI_size, hk]; omega), rowI_size, hk, Nat.add_sub_cancel_left]
theorem turn_cells {w : World} {g : Nat} {t : TypeId} (h : Whole w g t (turnRow ks s x wh at_ by_)) :
    w.cell? ⟨g, 32, none⟩ = some (.string s) ∧ w.cell? ⟨g, 33, none⟩ = some (.string x) ∧ w.cell? ⟨g, 34, none⟩ = some (.int .i64 wh) ∧ w.cell? ⟨g, 35, none⟩ = some (.int .i64 at_) ∧ w.cell? ⟨g, 36, none⟩ = some (.int .u8 by_) :=
  ⟨by rw [h.at_]; exact turn_rest hk 0, by rw [h.at_]; exact turn_rest hk 1, by rw [h.at_]; exact turn_rest hk 2, by rw [h.at_]; exact turn_rest hk 3, by rw [h.at_]; exact turn_rest hk 4⟩
theorem turn_range {w : World} {g : Nat} {t : TypeId} (h : Whole w g t (turnRow ks s x wh at_ by_)) : w.rangeAt g 0 (ks.map (Value.int .u8)) := by
  intro j v hv
  have hj : j < ks.length := by
    have := (List.getElem?_eq_some_iff.1 hv).1
    simpa using this
  rw [Nat.zero_add, h.at_, turn_key hk j (by omega), ← hv]
  simp [ix, List.getD, hj]
end
theorem heap_two (W : World) (o1 o2 : Obj) : (((W.alloc o1).alloc o2).drew).heap[W.heap.size + 1]? = some o2 := by
  have h := heap_alloc_new (W.alloc o1) o2
  have hs : (W.alloc o1).heap.size = W.heap.size + 1 := by simp
  rw [hs] at h
  exact h
theorem list_row {P : Program} {ops : Array Oper} {rest : List Oper} {o : Oper} {a : Act} {w : World} {Q : Exit → Act → World → Prop} (hgd : o.guard = none) (ty : TypeId) (x y : Operand) (ho : o.op = .store ty x y) (hd : o.dst = none)
    (g : Nat) (cells : Array Value) (hx : a.eval x = .pointer (some ⟨g, 0, none⟩)) (hy : a.eval y = .agg cells)
    (t : TypeId) (old : Array Value) (hg : w.heap[g]? = some (.cells old t (0, 0))) (hi : (P.info? ty).map (·.size) = some cells.size)
    (hold : old.size = cells.size) (h1 : cells.all (·.oneCell') = true)
    (h : wpList P ops Q rest a (w.setRow g cells)) : wpList P ops Q (o :: rest) a w := by
  refine wpList_store_row hgd ty x y ho g cells hx hy t old hg hi hold h1 ?_
  rw [hd]
  exact h
theorem bys_read {w : World} {g m : Nat} {t : TypeId} {xs zs : List Int} (h : Bys w g t m (xs ++ zs)) (n : Nat) (hn : xs.length = n) : ∀ q, q < n → w.cell? ⟨g, 0 + q, none⟩ = some (.int .u8 (xs.getD q 0)) := fun q hq => by
  rw [Nat.zero_add, h.cell q (by rw [List.length_append]; omega), ix_append_left _ _ _ (by omega)]
  rfl
theorem u8_bits (a b : Int) : 0 ≤ bits .xor .u8 a b ∧ bits .xor .u8 a b ≤ 255 := x8_0 a b
theorem U8s.set {ks : List Int} (h : U8s ks) (i : Nat) (v : Int) (hv : 0 ≤ v ∧ v ≤ 255) : U8s (ks.set i v) := by
  intro j
  by_cases hi : i < ks.length
  · rw [ix_set _ _ _ _ hi]
    split
    · exact hv
    · exact h j
  · rw [List.set_eq_of_length_le (by omega)]
    exact h j
/-- What Turned's tail finds. -/
structure Lag (w W : World) (b g5 g6 g7 L : Nat) (kk nn xs : List Int) : Prop where
  below : Below b w W
  n : Whole W g5 24 (rowI .u8 nn)
  k : Whole W g7 22 (rowI .u8 kk)
  c : ∀ q, q < L → W.cell? ⟨g6, 0 + q, none⟩ = some (.int .u8 (xs.getD q 0))
  lk : kk.length = 32
  ln : nn.length = 12
  lx : xs.length = L
  uk : U8s kk
  un : U8s nn
  ux : U8s xs
set_option maxRecDepth 100000 in
set_option maxHeartbeats 4000000 in
theorem turned_calls (ks : List Int) (s0 x0 : ByteArray) (wh at_ by_ : Int) (hk : ks.length = 32) (bk : ∀ b ∈ ks, 0 ≤ b ∧ b ≤ 255) (hby : 0 ≤ by_ ∧ by_ ≤ 255) (E : Nat → Addr) (w : World) (hE : Errs w E)
   (t0 : w.rangeAt 0 0 (beginI.map (Value.int .u32))) (t1 : w.rangeAt 1 0 orderC) :
    Calls Tryd.prog 10 #[.agg (turnRow ks s0 x0 wh at_ by_)] w fun e w' => e = .returned (.bool true) ∧ Below w.heap.size w w' := by
  have T0 := Lib.hid t0; have T1 := Lib.hid t1; clear t0 t1
  have HE := Lib.hid hE
  clear hE
  have H1 := Lib.hid (show (Tryd.prog.info? 22).map (·.size) = some (ks.map (Value.int .u8)).length by rw [List.length_map, hk]; kernel_rfl)
  have HK := Lib.hid hk; have BK := Lib.hid bk; have HBY := Lib.hid hby
  obtain ⟨s, hs⟩ : ∃ s, s = cutB s0 60 := ⟨_, rfl⟩
  obtain ⟨x, hx⟩ : ∃ x, x = cutB x0 30 := ⟨_, rfl⟩
  have HSZ := Lib.hid (show s.size ≤ 60 by rw [hs]; exact cutB_size _ _); have HXZ := Lib.hid (show x.size ≤ 30 by rw [hx]; exact cutB_size _ _)
  have HCS := Lib.hid hs.symm; have HCX := Lib.hid hx.symm
  clear hk bk hs hx hby
  generalize hrow : turnRow ks s0 x0 wh at_ by_ = row
  have HROW := Lib.hid hrow
  clear hrow
  go_enter Tryd.func10, Tryd.ntmps10
  go_wp2_with fail
  generalize hW : w.alloc _ = W0
  have hF0 : Below w.heap.size w W0 ∧ Whole W0 w.heap.size 53 row := by
    subst hW; exact ⟨by go_grown, Whole.new rfl rfl⟩
  have HB0 := Lib.hid hF0.1; have HR0 := Lib.hid hF0.2
  clear hW hF0
  refine (awake4_calls _ _ W0 (rangeAt_below T0.out HB0.out) (rangeAt_below T1.out HB0.out) (errs_end (HE.out.below HB0.out)) (errs_mac (HE.out.below HB0.out))).mono ?_
  rintro e W1 ⟨rfl, hb1⟩
  have HB1 := Lib.hid (HB0.out.trans (hb1.mono HB0.out.size)); have HR1 := Lib.hid (HR0.out.below hb1 HR0.out.inside)
  clear hb1
  go_wp2_with fail
  refine wp_region_class (fun W => Below w.heap.size w W ∧ Whole W w.heap.size 53 row) (by kernel_rfl) (by kernel_rfl) ⟨(HB1.out.trans (below_drawnN (Below.refl _ _) 1)), HR1.out.drew⟩ ?_
  refine wpQuiet_step (fun K hK => ?_)
  refine quiet_want (by kernel_rfl) ⟨(.pointer (some ⟨w.heap.size, 32, none⟩)), fun W hW => ?_, ?_⟩
  · refine quietAt_val ?_
    go_simp
  go_simp
  refine hK _ ?_
  clear hK K
  refine wpQuiet_step (fun K hK => ?_)
  refine quiet_want (by kernel_rfl) ⟨(.string s0), fun W hW => ?_, ?_⟩
  · refine quietAt_val ?_
    have hc := turn_cells HK.out (HROW.out ▸ hW.2)
    go_simp
  go_simp
  refine hK _ ?_
  clear hK K
  refine wpQuiet_step (fun K hK => ?_)
  refine quiet_want (by kernel_rfl) ⟨(.string s), fun W hW => ?_, ?_⟩
  · refine quietAt_call (f := 16) (args := (#[.string s0, .int .i64 60])) (by go_simp) ?_
    refine (cut_calls' s0 60 (by decide) W).mono ?_
    rw [HCS.out]
    rintro e W' ⟨rfl, rfl⟩
    exact ⟨rfl, hW⟩
  go_simp
  refine hK _ ?_
  clear hK K
  refine wpQuiet_step (fun K hK => ?_)
  refine quiet_want (by kernel_rfl) ⟨(.pointer (some ⟨w.heap.size, 33, none⟩)), fun W hW => ?_, ?_⟩
  · refine quietAt_val ?_
    go_simp
  go_simp
  refine hK _ ?_
  clear hK K
  refine wpQuiet_step (fun K hK => ?_)
  refine quiet_want (by kernel_rfl) ⟨(.string x0), fun W hW => ?_, ?_⟩
  · refine quietAt_val ?_
    have hc := turn_cells HK.out (HROW.out ▸ hW.2)
    go_simp
  go_simp
  refine hK _ ?_
  clear hK K
  refine wpQuiet_step (fun K hK => ?_)
  refine quiet_want (by kernel_rfl) ⟨(.string x), fun W hW => ?_, ?_⟩
  · refine quietAt_call (f := 16) (args := (#[.string x0, .int .i64 30])) (by go_simp) ?_
    refine (cut_calls' x0 30 (by decide) W).mono ?_
    rw [HCX.out]
    rintro e W' ⟨rfl, rfl⟩
    exact ⟨rfl, hW⟩
  go_simp
  refine hK _ ?_
  clear hK K
  refine wpQuiet_step (fun K hK => ?_)
  refine quiet_want (by kernel_rfl) ⟨(.string s), fun W hW => ?_, ?_⟩
  · refine quietAt_val ?_
    go_simp
  go_simp
  refine hK _ ?_
  clear hK K
  refine wpQuiet_step (fun K hK => ?_)
  refine quiet_want (by kernel_rfl) ⟨(.string x), fun W hW => ?_, ?_⟩
  · refine quietAt_val ?_
    go_simp
  go_simp
  refine hK _ ?_
  clear hK K
  refine wpQuiet_nil ?_
  intro W2 hF2
  obtain ⟨S, hS⟩ : ∃ S, S = strOfNums (sealI ks zz12 (bI s) (bI x)) := ⟨_, rfl⟩
  have hSb : bI S = sealI ks zz12 (bI s) (bI x) := by rw [hS, bI_str (sealI_mem _ _ _ _)]
  have hSs : S.size = s.size + 16 := by rw [← bI_length, hSb, sealI_length, bI_length]
  have HS := Lib.hid hS; have HSS := Lib.hid hSs
  clear hS hSb hSs
  have hr3 : (W2.alloc (.cells (rowI .u8 zz12) 24)).rangeAt w.heap.size 0 (ks.map (Value.int .u8)) := turn_range HK.out (HROW.out ▸ (hF2.2.alloc _))
  have hn3 : Whole (W2.alloc (.cells (rowI .u8 zz12) 24)) W2.heap.size 24 (rowI .u8 zz12) := Whole.new rfl rfl
  have HR3 := Lib.hid (show Whole (W2.alloc (.cells (rowI .u8 zz12) 24)) w.heap.size 53 row from hF2.2.alloc _)
  have HN3 := Lib.hid hn3
  have HB3 := Lib.hid (show Below w.heap.size w (W2.alloc (.cells (rowI .u8 zz12) 24)) from hF2.1.alloc hF2.1.size _)
  have HIN := Lib.hid hF2.2.inside
  clear hF2
  go_wp2_with (first
    | (refine wpList_load_mid rfl 22 (.tmp 21) rfl w.heap.size 0 rfl (ks.map (Value.int .u8)) _ hr3 Tryd.underlying22 rfl H1.out ?_)
    | (refine wpList_load_row rfl 24 (.tmp 5) rfl _ rfl 24 (rowI .u8 zz12) (0, 0) _ hn3 Tryd.underlying24 rfl (by kernel_rfl) ?_)
    | fail)
  clear hr3 hn3
  obtain ⟨g5, hg5⟩ : ∃ g5, g5 = W2.heap.size := ⟨_, rfl⟩
  generalize hW : W2.alloc _ = W3
  have hF3 : Below w.heap.size w W3 ∧ Whole W3 w.heap.size 53 row ∧ Whole W3 g5 24 (rowI .u8 zz12) := by
    subst hW; exact ⟨HB3.out, HR3.out, hg5 ▸ HN3.out⟩
  rw [← hg5]
  have HG5 := Lib.hid (show w.heap.size < g5 by rw [hg5]; exact HIN.out)
  have HB3 := Lib.hid hF3.1; have HR3 := Lib.hid hF3.2.1; have HN3 := Lib.hid hF3.2.2
  clear hW hF3 hg5
  refine (pseal_calls ks zz12 s x HK.out rfl (U8s_of_mem BK.out) zz12_u8 (by have := HSZ.out; omega) (by have := HXZ.out; omega) W3 (rangeAt_below T0.out HB3.out) (rangeAt_below T1.out HB3.out)).mono ?_
  rw [← HS.out]
  rintro e W4 ⟨rfl, hb4⟩
  have HB4 := Lib.hid (HB3.out.trans (hb4.mono HB3.out.size)); have HR4 := Lib.hid (HR3.out.below hb4 HR3.out.inside); have HN4 := Lib.hid (HN3.out.below hb4 HN3.out.inside)
  clear hb4
  have hcv := fun wx : World => run_bytes_of_string (P := Tryd.prog) wx 9 28 5 S Tryd.underlying9 Tryd.underlying28 Tryd.underlying5
  go_wp2_with (first
    | (refine wpList_load_mid rfl 22 (.tmp 28) rfl w.heap.size 0 rfl (ks.map (Value.int .u8)) _ (turn_range HK.out (HROW.out ▸ Whole.alloc (Whole.drew HR4.out) _)) Tryd.underlying22 rfl H1.out ?_)
    | (refine list_row rfl 22 (.tmp 7) (.tmp 29) rfl rfl _ (rowI .u8 ks) rfl rfl 22 _ (heap_two _ _ _) ?_ ?_ (rowI_one _ _) ?_
       (· rw [rowI_size, ← List.length_map (f := Value.int .u8)]; exact H1.out)
       (· rw [rowI_size, HK.out]; rfl)
       clear hcv
       have hcap := grownCap_ge W4 S.size 0 5
       generalize grownCap W4 S.size 0 5 = c at hcap ⊢
       obtain ⟨g6, hg6⟩ : ∃ g6, g6 = W4.heap.size := ⟨_, rfl⟩
       obtain ⟨g7, hg7⟩ : ∃ g7, g7 = W4.heap.size + 1 := ⟨_, rfl⟩
       rw [← hg7, ← hg6]
       generalize hW : World.setRow _ _ _ = W5
       have hF : Below w.heap.size w W5 ∧ Whole W5 w.heap.size 53 row ∧ Whole W5 g5 24 (rowI .u8 zz12) ∧ Whole W5 g7 22 (rowI .u8 ks) ∧ (∃ m, Bys W5 g6 5 m (bI S ++ List.replicate (c - S.size) 0)) ∧ w.heap.size < g5 ∧ g5 < g6 ∧ g7 = g6 + 1 ∧ S.size ≤ c := by
         have q5 := HG5.out
         have q6 := HN4.out.inside
         rw [← hg6] at q6
         have q7 : g7 = g6 + 1 := by omega
         subst hW
         refine ⟨(below_drawnN ((HB4.out.alloc HB4.out.size _).alloc (by simp; omega) _) 1).grown (only_row _ g7 _) (by simp; omega) (fun k hk => by cases hk; omega), ((HR4.out.alloc _).alloc _).drew.only (only_row _ _ _) (ne_some (by omega)), ((HN4.out.alloc _).alloc _).drew.only (only_row _ _ _) (ne_some (by omega)), ?_, ⟨_, (show Bys _ g6 _ _ _ from ((Bys.made hg6.symm S c 5).alloc _)).other (only_row _ _ _) (ne_some (by omega))⟩, q5, q6, q7, hcap⟩
         rw [hg7]
         exact (show Whole _ (W4.heap.size + 1) 22 _ from heap_two _ _ _).row
       clear hW hcap hg6 hg7
       have HF := Lib.hid hF
       have hc5 := turn_cells HK.out (HROW.out ▸ hF.2.1)
       obtain ⟨m, hbys⟩ := hF.2.2.2.2.1
       have hcz := run_convert_bytes_arg (P := Tryd.prog) (W5.alloc (.cells #[.int .u8 by_] 5)) 28 5 Tryd.underlying28 Tryd.underlying5 g6 0 S.size c (bI S) (bI_length S) (bys_read (hbys.alloc _) _ (bI_length S)) 9 Tryd.underlying9
       have HBYS := Lib.hid hbys
       clear hF hbys
       have hone := run_one
       have s1 : (strOfNums [by_]).size = 1 := str_size _
       have hcs : x.size + (strOfNums [by_]).size ≤ 1000 := by have := HXZ.out; omega
       have S1 := Lib.hid s1
       clear s1
       obtain ⟨nat_, hat, eat⟩ := and_small at_ 65535 (by decide)
       rw [show ((65535 : Nat) : Int) = 65535 from rfl] at eat)
    | (refine wpList_load_row rfl 22 (.tmp 7) rfl _ rfl 22 (rowI .u8 ks) (0, 0) _ (Whole.alloc HF.out.2.2.2.1 _) Tryd.underlying22 rfl (by rw [rowI_size, ← List.length_map (f := Value.int .u8)]; exact H1.out) ?_)
    | (refine wpList_load_row rfl 24 (.tmp 5) rfl _ rfl 24 (rowI .u8 zz12) (0, 0) _ (Whole.alloc HF.out.2.2.1 _) Tryd.underlying24 rfl (by kernel_rfl) ?_)
    | fail)
  focus (
    have hLc := HF.out.2.2.2.2.2.2.2.2
    have hL : 0 < S.size := by rw [HSS.out]; omega
    have hi : nat_ % S.size < S.size := Nat.mod_lt _ hL
    have hrem : Int.tmod (nat_ : Int) (S.size : Int) = ((nat_ % S.size : Nat) : Int) := (Int.ofNat_tmod _ _).symm
    have hlen : (bI S ++ List.replicate (c - S.size) 0).length = c := by simp [bI_length]; omega
    have hcell := HBYS.out.cell (nat_ % S.size) (by rw [hlen]; omega)
    have hfro := HBYS.out.frozen (nat_ % S.size) (by rw [hlen]; omega)
    clear hlen
    go_region
    generalize hW : World.drew _ = W6
    obtain ⟨kk, nn, xs, LG⟩ : ∃ kk nn xs, Lag w W6 w.heap.size g5 g6 g7 S.size kk nn xs := by
      subst hW
      have q5 := HF.out.2.2.2.2.2.1
      have q6 := HF.out.2.2.2.2.2.2.1
      have q7 := HF.out.2.2.2.2.2.2.2.1
      have hset := HBYS.out.set (nat_ % S.size) (bits .xor .u8 (ix (bI S ++ List.replicate (c - S.size) 0) (nat_ % S.size)) by_)
      rw [List.set_append_left _ _ (by rw [bI_length]; exact hi)] at hset
      refine ⟨ks, zz12, _, below_drawnN (HF.out.1.grown (only_stored (g := g6) _ rfl _) HF.out.1.size (fun k hk => by cases hk; omega)) 1, (HF.out.2.2.1.elsewhere _ (by show g6 ≠ g5; omega) _).drew, (HF.out.2.2.2.1.elsewhere _ (by show g6 ≠ g7; omega) _).drew, bys_read hset.drew _ ?_, HK.out, rfl, ?_, U8s_of_mem BK.out, zz12_u8, U8s.set (U8s_bI S) _ _ (u8_bits _ _)⟩
      · rw [List.length_set, bI_length]
      · rw [List.length_set, bI_length]
    clear hW hcz hcell hfro hrem hi hc5 hone hcs
    have hcz := run_convert_bytes_arg (P := Tryd.prog) W6 28 5 Tryd.underlying28 Tryd.underlying5 g6 0 S.size c xs LG.lx LG.c 9 Tryd.underlying9
    go_wp2_with (first
      | (refine wpList_load_row rfl 22 (.tmp 7) rfl _ rfl 22 (rowI .u8 kk) (0, 0) _ LG.k Tryd.underlying22 rfl (by rw [rowI_size, LG.lk]; kernel_rfl) ?_)
      | (refine wpList_load_row rfl 24 (.tmp 5) rfl _ rfl 24 (rowI .u8 nn) (0, 0) _ LG.n Tryd.underlying24 rfl (by rw [rowI_size, LG.ln]; kernel_rfl) ?_)
      | fail)
    clear hcz
    obtain ⟨xx, hxx⟩ : ∃ xx, x = xx := ⟨_, rfl⟩
    have HXX := Lib.hid (show xx.size ≤ 1000 by rw [← hxx]; have := HXZ.out; omega)
    rw [hxx]
    clear hxx)
  rotate_left
  focus (
    generalize hW : W5.alloc (.cells #[.int .u8 by_] 5) = W6
    have LG : Lag w W6 w.heap.size g5 g6 g7 S.size ks zz12 (bI S) := by
      subst hW
      exact ⟨HF.out.1.alloc HF.out.1.size _, HF.out.2.2.1.alloc _, HF.out.2.2.2.1.alloc _, bys_read (HBYS.out.alloc _) _ (bI_length S), HK.out, rfl, bI_length S, U8s_of_mem BK.out, zz12_u8, U8s_bI S⟩
    clear hW
    try clear hcz
    try clear hc5
    try clear hone
    have HXX := Lib.hid (show (x ++ strOfNums [by_]).size ≤ 1000 by rw [ByteArray.size_append, S1.out]; have := HXZ.out; omega)
    generalize x ++ strOfNums [by_] = xx at HXX ⊢
    generalize ks = kk at LG ⊢
    generalize zz12 = nn at LG ⊢
    generalize bI S = xs at LG ⊢)
  rotate_left
  focus (
    have hi : nat_ % 12 < 12 := Nat.mod_lt _ (by decide)
    have hrem : Int.tmod (nat_ : Int) 12 = ((nat_ % 12 : Nat) : Int) := (Int.ofNat_tmod nat_ 12).symm
    have hcell := HF.out.2.2.1.int (nat_ % 12) (by exact hi)
    have hfro := HF.out.2.2.1.free (nat_ % 12)
    go_region
    generalize hW : World.drew _ = W6
    obtain ⟨kk, nn, xs, LG⟩ : ∃ kk nn xs, Lag w W6 w.heap.size g5 g6 g7 S.size kk nn xs := by
      subst hW
      have q5 := HF.out.2.2.2.2.2.1
      have q6 := HF.out.2.2.2.2.2.2.1
      have q7 := HF.out.2.2.2.2.2.2.2.1
      have hset := HF.out.2.2.1.stored (nat_ % 12) (.int .u8 (bits .xor .u8 (ix zz12 (nat_ % 12)) by_))
      rw [rowI_set] at hset
      exact ⟨ks, _, bI S, below_drawnN (HF.out.1.grown (only_stored (g := g5) _ rfl _) HF.out.1.size (fun k hk => by cases hk; omega)) 1, hset.drew, (HF.out.2.2.2.1.elsewhere _ (by show g5 ≠ g7; omega) _).drew, bys_read ((HBYS.out.other (only_stored (g := g5) _ rfl _) (ne_some (by omega))).drew) _ (bI_length S), HK.out, by rw [List.length_set]; rfl, bI_length S, U8s_of_mem BK.out, U8s.set zz12_u8 _ _ (u8_bits _ _), U8s_bI S⟩
    clear hW hcz hcell hfro hrem hi hc5 hone hcs
    have hcz := run_convert_bytes_arg (P := Tryd.prog) W6 28 5 Tryd.underlying28 Tryd.underlying5 g6 0 S.size c xs LG.lx LG.c 9 Tryd.underlying9
    go_wp2_with (first
      | (refine wpList_load_row rfl 22 (.tmp 7) rfl _ rfl 22 (rowI .u8 kk) (0, 0) _ LG.k Tryd.underlying22 rfl (by rw [rowI_size, LG.lk]; kernel_rfl) ?_)
      | (refine wpList_load_row rfl 24 (.tmp 5) rfl _ rfl 24 (rowI .u8 nn) (0, 0) _ LG.n Tryd.underlying24 rfl (by rw [rowI_size, LG.ln]; kernel_rfl) ?_)
      | fail)
    clear hcz
    obtain ⟨xx, hxx⟩ : ∃ xx, x = xx := ⟨_, rfl⟩
    have HXX := Lib.hid (show xx.size ≤ 1000 by rw [← hxx]; have := HXZ.out; omega)
    rw [hxx]
    clear hxx)
  rotate_left
  focus (
    have hi : nat_ % 32 < 32 := Nat.mod_lt _ (by decide)
    have hrem : Int.tmod (nat_ : Int) 32 = ((nat_ % 32 : Nat) : Int) := (Int.ofNat_tmod nat_ 32).symm
    have hcell := HF.out.2.2.2.1.int (nat_ % 32) (by rw [HK.out]; exact hi)
    have hfro := HF.out.2.2.2.1.free (nat_ % 32)
    go_region
    generalize hW : World.drew _ = W6
    obtain ⟨kk, nn, xs, LG⟩ : ∃ kk nn xs, Lag w W6 w.heap.size g5 g6 g7 S.size kk nn xs := by
      subst hW
      have q5 := HF.out.2.2.2.2.2.1
      have q6 := HF.out.2.2.2.2.2.2.1
      have q7 := HF.out.2.2.2.2.2.2.2.1
      have hset := HF.out.2.2.2.1.stored (nat_ % 32) (.int .u8 (bits .xor .u8 (ix ks (nat_ % 32)) by_))
      rw [rowI_set] at hset
      exact ⟨_, zz12, bI S, below_drawnN (HF.out.1.grown (only_stored (g := g7) _ rfl _) HF.out.1.size (fun k hk => by cases hk; omega)) 1, (HF.out.2.2.1.elsewhere _ (by show g7 ≠ g5; omega) _).drew, hset.drew, bys_read ((HBYS.out.other (only_stored (g := g7) _ rfl _) (ne_some (by omega))).drew) _ (bI_length S), by rw [List.length_set]; exact HK.out, rfl, bI_length S, U8s.set (U8s_of_mem BK.out) _ _ (u8_bits _ _), zz12_u8, U8s_bI S⟩
    clear hW hcz hcell hfro hrem hi hc5 hone hcs
    have hcz := run_convert_bytes_arg (P := Tryd.prog) W6 28 5 Tryd.underlying28 Tryd.underlying5 g6 0 S.size c xs LG.lx LG.c 9 Tryd.underlying9
    go_wp2_with (first
      | (refine wpList_load_row rfl 22 (.tmp 7) rfl _ rfl 22 (rowI .u8 kk) (0, 0) _ LG.k Tryd.underlying22 rfl (by rw [rowI_size, LG.lk]; kernel_rfl) ?_)
      | (refine wpList_load_row rfl 24 (.tmp 5) rfl _ rfl 24 (rowI .u8 nn) (0, 0) _ LG.n Tryd.underlying24 rfl (by rw [rowI_size, LG.ln]; kernel_rfl) ?_)
      | fail)
    clear hcz
    obtain ⟨xx, hxx⟩ : ∃ xx, x = xx := ⟨_, rfl⟩
    have HXX := Lib.hid (show xx.size ≤ 1000 by rw [← hxx]; have := HXZ.out; omega)
    rw [hxx]
    clear hxx)
  rotate_left
  all_goals
    have HL := Lib.hid LG
    clear LG
    refine (popen_calls kk nn (strOfNums xs) xx HL.out.lk HL.out.ln HL.out.uk HL.out.un (by rw [str_size, HL.out.lx, HSS.out]; have := HSZ.out; omega) (by have := HXX.out; omega) _ _ W6 (rangeAt_below T0.out HL.out.below) (rangeAt_below T1.out HL.out.below) (errs_end (HE.out.below HL.out.below)) (errs_mac (HE.out.below HL.out.below))).mono ?_
    rintro e W7 ⟨rfl, hb7⟩
    have HB7 := Lib.hid (HL.out.below.trans (hb7.mono HL.out.below.size)); have HK7 := Lib.hid (HL.out.k.below hb7 HL.out.k.inside); have HN7 := Lib.hid (HL.out.n.below hb7 HL.out.n.inside)
    have HC7 := Lib.hid (fun q (hq : q < S.size) => (hb7.cell (block_lt_of_cell (HL.out.c q hq))).trans (HL.out.c q hq))
    clear hb7
    obtain ⟨T, hT⟩ : ∃ T, T = strOfNums (openS kk nn (bI (strOfNums xs)) (bI xx)) := ⟨_, rfl⟩
    obtain ⟨cc, hcc⟩ : ∃ cc, cc = openC kk nn (bI (strOfNums xs)) (bI xx) := ⟨_, rfl⟩
    rw [← hT, ← hcc]
    have HT := Lib.hid hT; have HC := Lib.hid hcc; have HCC := Lib.hid (show cc = 0 ∨ cc = 2 ∨ cc = 5 by rw [hcc]; exact openC_cases _ _ _ _)
    clear hT hcc
    go_wp2_with fail
    obtain ⟨v, hv⟩ : ∃ v, v = errV cc (errI (E 1)) (errI (E 4)) := ⟨_, rfl⟩
    rw [← hv]
    have HV := Lib.hid hv
    clear hv
    have c86 := run_convert_bytes_arg (P := Tryd.prog) W7.drew 28 5 Tryd.underlying28 Tryd.underlying5 g7 0 32 32 kk HL.out.lk (whole_sliced W7.drew _ _ kk 32 HK7.out.drew HL.out.lk) 9 Tryd.underlying9
    have c88 := run_convert_bytes_arg (P := Tryd.prog) W7.drew 28 5 Tryd.underlying28 Tryd.underlying5 g5 0 12 12 nn HL.out.ln (whole_sliced W7.drew _ _ nn 12 HN7.out.drew HL.out.ln) 9 Tryd.underlying9
    have c90 := run_convert_bytes_arg (P := Tryd.prog) W7.drew 28 5 Tryd.underlying28 Tryd.underlying5 g6 0 S.size c xs HL.out.lx HC7.out 9 Tryd.underlying9
    have RO := Lib.hid (fun W => ropen_calls (strOfNums kk) (strOfNums nn) (strOfNums xs) xx (by rw [str_size]; exact HL.out.lk) (by rw [str_size]; exact HL.out.ln) (by rw [str_size, HL.out.lx, HSS.out]; have := HSZ.out; omega) (by have := HXX.out; omega) W)
    rw [bI_str (mem_of_U8s HL.out.uk), bI_str (mem_of_U8s HL.out.un), ← HT.out, ← HC.out] at RO
    generalize strOfNums kk = KEY at c86 RO
    generalize strOfNums nn = ZZ at c88 RO
    generalize strOfNums xs = SX at c90 RO
    go_region_with (go_at_call 25; refine (RO.out _).mono ?_; rintro e w' ⟨rfl, hb⟩)
    all_goals
      have HB8 := Lib.hid (HB7.out.trans ((below_drawnN (Below.refl W7.heap.size W7) 1).trans hb |>.mono HB7.out.size))
      clear hb c86 c88 c90
      go_wp2_with fail
      have hco := code_open E cc HCC.out w' (HE.out.below HB8.out)
      rw [← HV.out] at hco
      refine hco.mono ?_
      rintro e w5 ⟨rfl, rfl⟩
      clear hco
      go_wp2_with fail
      go_ret
      exact ⟨rfl, HB8.out⟩
end Go.Proofs.YtfoljmpphbhobaaDoor
