/- The walk of LeaseApart: it answers true. -/
import Derived.Test.YtlkgdnmfgcmldaaDoorLea23
import Derived.Deep.QuietTactic
import Derived.BigQuiet
import Derived.Deep.DeepCutAuto
import Derived.Deep.CutBlock
import Derived.Deep.RegionHeld3
namespace Go.Proofs.YtlkgdnmfgcmldaaDoor
open Go.RowKit Go.Spk
set_option linter.unusedVariables false
theorem cellsL_set : ∀ (L : List Lse) (k : Nat) (x : Lse), L[k]? = some x → (cellsL L).set (k * 5 + 3) (.int .i64 0) = cellsL (L.set k (e0 x))
  | [], k, x, h => by simp at h
  | y :: L, 0, x, h => by
    have e : y = x := by simpa using h
    subst e
    rfl
  | y :: L, k + 1, x, h => by
    have e : L[k]? = some x := by simpa using h
    show (lseC y ++ cellsL L).set ((k + 1) * 5 + 3) _ = lseC y ++ cellsL (L.set k (e0 x))
    rw [List.set_append_right _ _ (by rw [lseC_length]; omega), lseC_length, ← cellsL_set L k x e]
    congr 2
    omega
theorem Lows.setE {w : World} {B : Nat} {T : TypeId} {g cap : Nat} {L : List Lse} {n : Nat} (hn : L.length = n) (h : Lows w B T (.slice (some ⟨g, 0, none⟩) n cap) L) (k : Nat) (x : Lse) (hx : L[k]? = some x) :
    Lows (w.setCell ⟨g, k * 5 + 3, none⟩ (.int .i64 0)) B T (.slice (some ⟨g, 0, none⟩) n cap) (L.set k (e0 x)) := by
  subst hn
  have h1 := (World.ownsRow.stored (w := w) h (k * 5 + 3) (.int .i64 0)).1
  rw [cellsL_set L k x hx] at h1
  unfold Lows
  rw [List.length_set]
  exact h1
/-- Two tables in a law's hands, the second of them the first's leases of one tenant. -/
def TwoT (w W : World) (nm lf : Int) (ga ba gb bb : Nat) (k : Nat) : Prop :=
  ∃ ea eb LA LB, Hold w W ga ba nm 4096 lf ea LA ∧ Hold w W gb bb nm 4096 lf eb LB ∧ Apart LA LB ∧ LA.length ≤ k ∧ LB.length ≤ k ∧ (0 ≤ ea ∧ ea ≤ (k : Int)) ∧ (0 ≤ eb ∧ eb ≤ (k : Int)) ∧ (ga ≠ gb ∧ ga ≠ bb ∧ ba ≠ gb ∧ ba ≠ bb)
theorem TwoT.quiet {w W W' : World} {nm lf : Int} {ga ba gb bb k : Nat} (h : TwoT w W nm lf ga ba gb bb k) (hb : Below W.heap.size W W') : TwoT w W' nm lf ga ba gb bb k := by
  obtain ⟨ea, eb, LA, LB, h1, h2, h3⟩ := h
  exact ⟨ea, eb, LA, LB, h1.quiet hb, h2.quiet hb, h3⟩
theorem TwoT.below {w W : World} {nm lf : Int} {ga ba gb bb k : Nat} (h : TwoT w W nm lf ga ba gb bb k) : Below w.heap.size w W := by
  obtain ⟨ea, eb, LA, LB, h1, _⟩ := h
  exact h1.below
theorem TwoT.far {w W W' : World} {nm lf : Int} {ga ba gb bb k : Nat} {q : Nat} (h : TwoT w W nm lf ga ba gb bb k) (hk : W.grownBy W' (some q)) (hq : ga ≠ q ∧ ba ≠ q ∧ gb ≠ q ∧ bb ≠ q) (hw : w.heap.size ≤ q) : TwoT w W' nm lf ga ba gb bb k := by
  obtain ⟨ea, eb, LA, LB, h1, h2, h3⟩ := h
  exact ⟨ea, eb, LA, LB, h1.kept (Kept2.of_only hk q) hq.1 hq.1 hq.2.1 hq.2.1 hw hw, h2.kept (Kept2.of_only hk q) hq.2.2.1 hq.2.2.1 hq.2.2.2 hq.2.2.2 hw hw, h3⟩
theorem neq_lease (x y : Lse) (w : World) : (binOp .neq 29 (.agg (lseC x).toArray) (.agg (lseC y).toArray)).run Tryd.prog w = .ok (.bool (!eqL x y)) w := by
  have u3 := Tryd.underlying3
  have a3 := Tryd.isAgg3
  have z3 := Tryd.sizeOf3
  have u9 := Tryd.underlying9
  have a9 := Tryd.isAgg9
  have z9 := Tryd.sizeOf9
  have hS : Tryd.prog.underlying 29 = some (.struct (Tryd.prog.fieldsOf 29)) := by kernel_rfl
  have hp : Tryd.prog.stoodInHeld 29 = false := by kernel_rfl
  simp only [lseC]
  rw [run_neq_struct, show (10000 : Nat) = 9999 + 1 from rfl, run_equalIn_agg w 9999 29 _ _ hS hp]
  simp only [Program.fieldsOf, Tryd.underlying29]
  go_simp
  unfold eqL
  simp only [tl_eq]
  by_cases h1 : x.t = y.t <;> by_cases h2 : x.a = y.a <;> by_cases h3 : x.o = y.o <;> by_cases h4 : x.e = y.e <;> by_cases h5 : x.l = y.l <;> simp [h1, h2, h3, h4, h5]
/-- The leases of which the first q have lost their epochs. -/
def lostE (L : List Lse) (q : Nat) : List Lse := (L.take q).map e0 ++ L.drop q
theorem lostE_length (L : List Lse) (q : Nat) : (lostE L q).length = L.length := by
  unfold lostE
  rw [List.length_append, List.length_map, List.length_take, List.length_drop]; omega
theorem lostE_at {L : List Lse} {q : Nat} {y : Lse} (hy : L[q]? = some y) : (lostE L q)[q]? = some y := by
  have hq : q < L.length := (List.getElem?_eq_some_iff.1 hy).1
  unfold lostE
  rw [List.getElem?_append_right (by simp; omega), List.length_map, List.length_take, Nat.min_eq_left (by omega), Nat.sub_self, drop_of hy]
  rfl
theorem lostE_set {L : List Lse} {q : Nat} {y : Lse} (hy : L[q]? = some y) : (lostE L q).set q (e0 y) = lostE L (q + 1) := by
  have hq : q < L.length := (List.getElem?_eq_some_iff.1 hy).1
  unfold lostE
  rw [List.set_append_right _ _ (by simp; omega), List.length_map, List.length_take, Nat.min_eq_left (by omega), Nat.sub_self, drop_of hy, take_succ_of hy, List.map_append, List.append_assoc]
  rfl
theorem lostE_new {L : List Lse} {q : Nat} {y : Lse} (hy : L[q]? = some y) : (lostE L (q + 1))[q]? = some (e0 y) := by
  rw [← lostE_set hy, List.getElem?_set_self (by rw [lostE_length]; exact (List.getElem?_eq_some_iff.1 hy).1)]
theorem Lows.len {w : World} {B : Nat} {T : TypeId} {v : Value} {L : List Lse} (h : Lows w B T v L) : ∃ A c, v = .slice A L.length c := by
  rcases h.shape with ⟨h1, h2⟩ | ⟨g', cap, cur, h1, _⟩
  · exact ⟨none, 0, by rw [h1, h2]; rfl⟩
  · exact ⟨_, _, h1⟩
theorem Lows.drewN {w : World} {B : Nat} {T : TypeId} {v : Value} {L : List Lse} (h : Lows w B T v L) (n : Nat) : Lows (w.drewN n) B T v L := h.kept (only_drawnN (World.grownBy.refl w none) n) (own_or v)
theorem sT_list : sT.toList = [116] := by rw [Lib.toList_data]; rfl
theorem cancelM_len (L : List Lse) (t a : ByteArray) (o : Int) : (cancelM L t a o).1.length ≤ L.length := by
  unfold cancelM
  split
  · split
    · exact List.length_filter_le _ _
    · exact Nat.le_refl _
  · exact Nat.le_refl _
theorem takeM_code (nm tot ep : Int) (L : List Lse) (t a : ByteArray) (o now : Int) : (takeM nm tot ep L t a o now).code ≤ 20 := by
  unfold takeM newM
  split
  · split
    · split <;> simp
    · split
      · simp
      · split <;> simp
  · simp
theorem code_errV (E : Nat → Addr) (c : Nat) (hc : c ≤ 20) (w : World) (hE : Errs w E) : Calls Tryd.prog 12 #[errV E c] w fun e w' => e = .returned (.int .i64 (c : Int)) ∧ w = w' := by
  unfold errV
  by_cases h : c = 0
  · subst h
    rw [if_pos rfl]
    exact code_nil w
  · rw [if_neg h]
    have := code_bare E (c - 1) (by omega) w hE
    rw [show ((c - 1 : Nat) : Int) + 1 = (c : Int) by omega] at this
    exact this
theorem Whole.kept2 {w w' : World} {g b n : Nat} {t : TypeId} {cs : Array Value} (h : Whole w n t cs) (hk : Kept2 w w' g b) (h1 : n ≠ g) (h2 : n ≠ b) : Whole w' n t cs := by
  have := hk.block n h.inside h1 h2
  unfold Whole at *
  rw [this]; exact h
set_option maxRecDepth 100000 in
set_option maxHeartbeats 8000000 in
theorem apart_calls (names life : Int) (A : Option Addr) (xs : List Act) (cap : Nat) (hl : xs.length ≤ maxLen) (E : Nat → Addr) (w : World) (hX : ActsAt w A xs) (hE : Errs w E) :
    Calls Tryd.prog 6 #[.int .i64 names, .int .i64 life, .slice A xs.length cap] w fun e w' => e = .returned (.bool true) ∧ Below w.heap.size w w' := by
  have HE := Lib.hid hE; have HX := Lib.hid hX
  clear hE hX
  unfold maxLen at hl
  have hlI : (xs.length : Int) ≤ 9223372036854775807 := by omega
  clear hl
  go_enter Tryd.func6, Tryd.ntmps6
  go_wp2_with fail
  refine (awake_calls E w HE.out).mono ?_
  rintro e W0 ⟨rfl, hb0⟩
  have H0 := Lib.hid hb0
  clear hb0
  go_upto_region 4 with fail
  refine name_wp (fun W => Below w.heap.size w W ∧ Whole W W0.heap.size 27 #[.int .i64 names, .int .i64 4096, .int .i64 life]) ⟨H0.out.alloc H0.out.size _, Whole.new rfl rfl⟩ ?_
  intro W1 hF1
  have HF1 := Lib.hid hF1
  have k0 : W1.cell? ⟨W0.heap.size, 0, none⟩ = some (.int .i64 names) := by rw [hF1.2.at_]; rfl
  have k1 : W1.cell? ⟨W0.heap.size, 1, none⟩ = some (.int .i64 4096) := by rw [hF1.2.at_]; rfl
  have k2 : W1.cell? ⟨W0.heap.size, 2, none⟩ = some (.int .i64 life) := by rw [hF1.2.at_]; rfl
  clear hF1
  obtain ⟨nm, hnm⟩ : ∃ nm, nm = max 0 (min names 64) := ⟨_, rfl⟩
  obtain ⟨lf, hlf⟩ : ∃ lf, lf = max 1 (min life 1073741824) := ⟨_, rfl⟩
  have HNW := Lib.hid (show ∀ W, Below W1.heap.size W1 W → Calls Tryd.prog 8 #[.agg #[.int .i64 names, .int .i64 4096, .int .i64 life]] W fun e w' =>
    ∃ g b, e = .returned (.pointer (some ⟨g, 0, none⟩)) ∧ Hold w w' g b nm 4096 lf 0 [] ∧ Below W1.heap.size W1 w' ∧ Below W.heap.size W w' ∧ W.heap.size ≤ g ∧ W.heap.size ≤ b ∧ w'.cell? ⟨W0.heap.size, 0, none⟩ = some (.int .i64 names) ∧ w'.cell? ⟨W0.heap.size, 1, none⟩ = some (.int .i64 4096) ∧ w'.cell? ⟨W0.heap.size, 2, none⟩ = some (.int .i64 life) by
    intro W hb
    refine (h_new w names 4096 life W (HF1.out.1.trans (hb.mono HF1.out.1.size))).mono ?_
    rintro e w' ⟨g, b, rfl, h1, h2, h3, h4⟩
    have hw := (HF1.out.2.below hb HF1.out.2.inside).below h2 (Nat.lt_of_lt_of_le HF1.out.2.inside hb.size)
    exact ⟨g, b, rfl, by rw [hnm, hlf]; exact h1, hb.trans (h2.mono hb.size), h2, h3, h4, by rw [hw.at_]; rfl, by rw [hw.at_]; rfl, by rw [hw.at_]; rfl⟩)
  clear hnm hlf
  have tok : True := trivial
  go_cut [8, 9] (fun s8 s9 wx => ∃ ga ba gb bb : Nat, s8 = .pointer (some ⟨ga, 0, none⟩) ∧ s9 = .pointer (some ⟨gb, 0, none⟩) ∧ TwoT w wx nm lf ga ba gb bb 0)
  case first =>
    go_region_held3 (fun W => W.cell? ⟨W0.heap.size, 0, none⟩ = some (.int .i64 names) ∧ W.cell? ⟨W0.heap.size, 1, none⟩ = some (.int .i64 4096) ∧ W.cell? ⟨W0.heap.size, 2, none⟩ = some (.int .i64 life)) (go_keep)
      (first
        | (go_at_call 8; have _t := tok; refine (HNW.out _ (by go_grown)).mono ?_; rintro e W2 ⟨g1, b1, rfl, h1, hb1, hc1, hg1, hd1, q0, q1, q2⟩; have HP1 := Lib.hid (show Hold w W2 g1 b1 nm 4096 lf 0 [] ∧ Below W1.heap.size W1 W2 ∧ g1 < W2.heap.size ∧ b1 < W2.heap.size from ⟨h1, hb1, h1.row.inside, h1.tab.lt⟩); clear tok _t h1 hb1 hc1 hg1 hd1 k0 k1 k2)
        | (go_at_call 8; refine (HNW.out _ HP1.out.2.1).mono ?_; rintro e W3 ⟨g2, b2, rfl, h2, hb2, hc2, hg2, hd2, r0, r1, r2⟩; have HP2 := Lib.hid (show Hold w W3 g2 b2 nm 4096 lf 0 [] ∧ Hold w W3 g1 b1 nm 4096 lf 0 [] ∧ (g1 ≠ g2 ∧ g1 ≠ b2 ∧ b1 ≠ g2 ∧ b1 ≠ b2) from ⟨h2, HP1.out.1.quiet hc2, by have := HP1.out.2.2; omega⟩); clear h2 hb2 hc2 hg2 hd2 q0 q1 q2))
    all_goals go_wp2_with fail
    all_goals go_meet
    all_goals
      first
        | exact ⟨g1, b1, g2, b2, rfl, rfl, 0, 0, [], [], HP2.out.2.1, HP2.out.1, ⟨List.Pairwise.nil, List.Pairwise.nil, (fun y hy => by cases hy), rfl⟩, by simp, by simp, by omega, by omega, HP2.out.2.2⟩
        | exact ⟨g2, b2, g1, b1, rfl, rfl, 0, 0, [], [], HP2.out.1, HP2.out.2.1, ⟨List.Pairwise.nil, List.Pairwise.nil, (fun y hy => by cases hy), rfl⟩, by simp, by simp, by omega, by omega, by have := HP2.out.2.2; omega⟩
  case rest =>
    obtain ⟨ga, ba, gb, bb, rfl, rfl, ht⟩ := hcut
    have HT := Lib.hid ht
    clear ht k0 k1 k2
    go_wp2_with fail
    go_loopg [10] 100 (fun gn i wr => ∃ k : Nat, gn + k = 100 ∧ i = .int .i64 k ∧ TwoT w wr nm lf ga ba gb bb k)
    case atStart => exact ⟨0, rfl, rfl, HT.out⟩
    case round =>
      obtain ⟨k, hgk, rfl, ht⟩ := hrel
      have HH := Lib.hid ht
      clear ht
      by_cases hin : k < xs.length ∧ k < 100
      · obtain ⟨hkz, hk100⟩ := hin
        have hi1 : (k : Int) < xs.length := by omega
        have hi2 : (k : Int) < 100 := by omega
        obtain ⟨x, hx⟩ : ∃ x, xs[k]? = some x := ⟨xs[k], List.getElem?_eq_getElem hkz⟩
        obtain ⟨hs1, hs2, B, o, rfl, hB, hc⟩ := (HX.out.below HH.out.below) k x hx
        have e0 : wr.cell? ⟨B, o + k * 5, none⟩ = some (.int .i64 x.k) := hc 0 _ rfl
        have e1 : wr.cell? ⟨B, o + k * 5 + 1, none⟩ = some (.string x.t) := hc 1 _ rfl
        have e2 : wr.cell? ⟨B, o + k * 5 + 2, none⟩ = some (.string x.a) := hc 2 _ rfl
        have e3 : wr.cell? ⟨B, o + k * 5 + 3, none⟩ = some (.int .i64 x.o) := hc 3 _ rfl
        have e4 : wr.cell? ⟨B, o + k * 5 + 4, none⟩ = some (.int .i64 x.n) := hc 4 _ rfl
        have HS := Lib.hid (And.intro hs1 hs2)
        have HG := Lib.hid hgk
        clear hx hc hB hs1 hs2 hgk
        go_upto_region 11 with fail
        refine name_wp (fun W => TwoT w W nm lf ga ba gb bb k ∧ Whole W wr.heap.size 49 (actC x).toArray) ⟨HH.out.quiet ((Below.refl _ _).alloc (Nat.le_refl _) _), Whole.new rfl rfl⟩ ?_
        intro W1 hF1
        have HF2 := Lib.hid hF1
        have c1 : W1.cell? ⟨wr.heap.size, 1, none⟩ = some (.string x.t) := hF1.2.at_ 1
        have c2 : W1.cell? ⟨wr.heap.size, 2, none⟩ = some (.string x.a) := hF1.2.at_ 2
        clear hF1 e0 e1 e2 e3 e4
        have hq1 := cut_calls x.t HS.out.1 70 (by decide)
        have hq2 := cut_calls x.a HS.out.2 70 (by decide)
        have HQ := Lib.hid (And.intro hq1 hq2)
        clear hq1 hq2
        go_quiet (first
          | (go_at_call_of 20 (Value.string x.t); exact Calls.quiet_of_same (HQ.out.1 _))
          | (go_at_call_of 20 (Value.string x.a); exact Calls.quiet_of_same (HQ.out.2 _)))
        clear c1 c2
        obtain ⟨tt, htt⟩ : ∃ tt, tt = cutB x.t 70 := ⟨_, rfl⟩
        obtain ⟨aa, haa⟩ : ∃ aa, aa = cutB x.a 70 := ⟨_, rfl⟩
        rw [← htt, ← haa]
        have HSZ := Lib.hid (show tt.size ≤ maxLen ∧ aa.size ≤ maxLen from ⟨by rw [htt]; exact Nat.le_trans (cutB_size _ _) (by unfold maxLen; omega), by rw [haa]; exact Nat.le_trans (cutB_size _ _) (by unfold maxLen; omega)⟩)
        clear htt haa
        have d0 : World.cell? W1 ⟨wr.heap.size, 0, none⟩ = some (.int .i64 x.k) := HF2.out.2.at_ 0
        go_upto_block 2 with fail
        refine name_wp (fun W => TwoT w W nm lf ga ba gb bb k ∧ Whole W wr.heap.size 49 (actC x).toArray) ⟨HF2.out.1.quiet (below_drawnN (Below.refl _ _) _), HF2.out.2.drewN _⟩ ?_
        intro W2 hF3
        have HF3 := Lib.hid hF3
        clear hF3 d0
        have HBL := Lib.hid (show ga < wr.heap.size ∧ ba < wr.heap.size ∧ gb < wr.heap.size ∧ bb < wr.heap.size by
          obtain ⟨_, _, _, _, h1, h2, _⟩ := HH.out
          exact ⟨h1.row.inside, h1.tab.lt, h2.row.inside, h2.tab.lt⟩)
        go_cut [14] (fun s14 wx => TwoT w wx nm lf ga ba gb bb (k + 1))
        case first =>
          have n3 : W2.cell? ⟨wr.heap.size, 3, none⟩ = some (.int .i64 x.o) := HF3.out.2.at_ 3
          have n4 : W2.cell? ⟨wr.heap.size, 4, none⟩ = some (.int .i64 x.n) := HF3.out.2.at_ 4
          obtain ⟨ea, eb, LA, LB, hA, hB, hap, hla, hlb, hea, heb, hne⟩ := HF3.out.1
          have HA := Lib.hid (show Hold w W2 ga ba nm 4096 lf ea LA ∧ LA.length ≤ 100000 ∧ (0 ≤ ea ∧ ea ≤ 1000000) ∧ LA.length ≤ k ∧ ea ≤ (k : Int) from ⟨hA, by omega, by omega, hla, hea.2⟩)
          have HB := Lib.hid (show Hold w W2 gb bb nm 4096 lf eb LB ∧ LB.length ≤ 100000 ∧ (0 ≤ eb ∧ eb ≤ 1000000) ∧ LB.length ≤ k ∧ eb ≤ (k : Int) from ⟨hB, by omega, by omega, hlb, heb.2⟩)
          have HN := Lib.hid hne
          have HAP := Lib.hid hap
          clear hA hB hap hla hlb hea heb hne
          by_cases hk2 : x.k = 2
          · have hb2 : (x.k == 2) = true := by simp [hk2]
            clear hk2
            go_wp2_with fail
            refine (h_cancel W2 HA.out.1 E HE.out tt aa x.o HSZ.out.1 HSZ.out.2).mono ?_
            rintro e W3 ⟨rfl, h3, hkp⟩
            have HC := Lib.hid (show Hold w W3 ga ba nm 4096 lf ea (cancelM LA tt aa x.o).1 ∧ Hold w W3 gb bb nm 4096 lf eb LB ∧ Whole W3 wr.heap.size 49 (actC x).toArray from
              ⟨h3, HB.out.1.kept hkp (Ne.symm HN.out.1) (Ne.symm HN.out.2.2.1) (Ne.symm HN.out.2.1) (Ne.symm HN.out.2.2.2) h3.lg h3.lb, Whole.kept2 HF3.out.2 hkp (by have := HBL.out; omega) (by have := HBL.out; omega)⟩)
            clear h3 hkp n3 n4
            have n3 : W3.cell? ⟨wr.heap.size, 3, none⟩ = some (.int .i64 x.o) := HC.out.2.2.at_ 3
            have hc1 := cancelM_len LA tt aa x.o
            have hc2 := cancelM_len LB tt aa x.o
            by_cases hm : tt = sT
            · have hmb : (tt.toList == [116]) = true := by rw [hm, sT_list]; rfl
              have hac := HAP.out.cancel tt aa x.o
              rw [if_pos hm] at hac
              have HAC := Lib.hid (And.intro hac (And.intro hc1 hc2))
              clear hac hc1 hc2 hm
              go_wp2_with fail
              refine (h_cancel W3 HC.out.2.1 E HE.out tt aa x.o HSZ.out.1 HSZ.out.2).mono ?_
              rintro e W4 ⟨rfl, h4, hkp⟩
              have HR := Lib.hid (show TwoT w W4 nm lf ga ba gb bb (k + 1) from
                ⟨ea, eb, _, _, HC.out.1.kept hkp HN.out.1 HN.out.2.1 HN.out.2.2.1 HN.out.2.2.2 h4.lg h4.lb, h4, HAC.out.1, by have := HAC.out.2.1; have := HA.out.2.2.2.1; omega, by have := HAC.out.2.2; have := HB.out.2.2.2.1; omega, by have := HA.out; omega, by have := HB.out; omega, HN.out⟩)
              clear h4 hkp n3
              go_wp2_with fail
              go_meet
              exact HR.out
            · have hmb : (tt.toList == [116]) = false := by have := str_ne (s' := sT) hm; rwa [sT_list] at this
              have hac := HAP.out.cancel tt aa x.o
              rw [if_neg hm] at hac
              have HAC := Lib.hid (And.intro hac (And.intro hc1 hc2))
              clear hac hc1 hc2 hm
              have HR := Lib.hid (show TwoT w W3 nm lf ga ba gb bb (k + 1) from
                ⟨ea, eb, _, _, HC.out.1, HC.out.2.1, HAC.out.1, by have := HAC.out.2.1; have := HA.out.2.2.2.1; omega, by have := HB.out.2.2.2.1; omega, by have := HA.out; omega, by have := HB.out; omega, HN.out⟩)
              go_wp2_with fail
              go_meet
              exact HR.out
          have hb2 : (x.k == 2) = false := by simp [hk2]
          by_cases hk3 : x.k = 3
          · have hb3 : (x.k == 3) = true := by simp [hk3]
            clear hk3
            go_wp2_with fail
            refine (h_beat W2 HA.out.1 HA.out.2.1 x.o x.n).mono ?_
            rintro e W3 ⟨rfl, h3, hkp⟩
            have HC := Lib.hid (show Hold w W3 ga ba nm 4096 lf ea (LA.map (updL x.o (tickI x.n))) ∧ Hold w W3 gb bb nm 4096 lf eb LB ∧ Whole W3 wr.heap.size 49 (actC x).toArray from
              ⟨h3, HB.out.1.kept hkp (Ne.symm HN.out.1) (Ne.symm HN.out.2.2.1) (Ne.symm HN.out.2.1) (Ne.symm HN.out.2.2.2) h3.lg h3.lb, Whole.kept2 HF3.out.2 hkp (by have := HBL.out; omega) (by have := HBL.out; omega)⟩)
            clear h3 hkp n3 n4
            have n3 : W3.cell? ⟨wr.heap.size, 3, none⟩ = some (.int .i64 x.o) := HC.out.2.2.at_ 3
            have n4 : W3.cell? ⟨wr.heap.size, 4, none⟩ = some (.int .i64 x.n) := HC.out.2.2.at_ 4
            go_wp2_with fail
            refine (h_beat W3 HC.out.2.1 HB.out.2.1 x.o x.n).mono ?_
            rintro e W4 ⟨rfl, h3, hkp⟩
            have HR := Lib.hid (show TwoT w W4 nm lf ga ba gb bb (k + 1) from
              ⟨ea, eb, _, _, HC.out.1.kept hkp HN.out.1 HN.out.2.1 HN.out.2.2.1 HN.out.2.2.2 h3.lg h3.lb, h3, HAP.out.beat x.o (tickI x.n), by have h5 := (show (LA.map (updL x.o (tickI x.n))).length = LA.length from List.length_map _); have := HA.out.2.2.2.1; omega, by have h5 := (show (LB.map (updL x.o (tickI x.n))).length = LB.length from List.length_map _); have := HB.out.2.2.2.1; omega, by have := HA.out; omega, by have := HB.out; omega, HN.out⟩)
            clear h3 hkp n3 n4
            go_wp2_with fail
            go_meet
            exact HR.out
          have hb3 : (x.k == 3) = false := by simp [hk3]
          by_cases hk4 : x.k = 4
          · have hb4 : (x.k == 4) = true := by simp [hk4]
            clear hk4
            go_wp2_with fail
            refine (h_drop W2 HA.out.1 HA.out.2.1 x.o).mono ?_
            rintro e W3 ⟨v3, rfl, _, h3, hkp⟩
            have HC := Lib.hid (show Hold w W3 ga ba nm 4096 lf ea (LA.filter fun y => !isOwn x.o y) ∧ Hold w W3 gb bb nm 4096 lf eb LB ∧ Whole W3 wr.heap.size 49 (actC x).toArray from
              ⟨h3, HB.out.1.kept hkp (Ne.symm HN.out.1) (Ne.symm HN.out.2.2.1) (Ne.symm HN.out.2.1) (Ne.symm HN.out.2.2.2) h3.lg h3.lb, Whole.kept2 HF3.out.2 hkp (by have := HBL.out; omega) (by have := HBL.out; omega)⟩)
            clear h3 hkp n3 n4
            have n3 : W3.cell? ⟨wr.heap.size, 3, none⟩ = some (.int .i64 x.o) := HC.out.2.2.at_ 3
            have n4 : W3.cell? ⟨wr.heap.size, 4, none⟩ = some (.int .i64 x.n) := HC.out.2.2.at_ 4
            go_wp2_with fail
            refine (h_drop W3 HC.out.2.1 HB.out.2.1 x.o).mono ?_
            rintro e W4 ⟨v3, rfl, _, h3, hkp⟩
            have HR := Lib.hid (show TwoT w W4 nm lf ga ba gb bb (k + 1) from
              ⟨ea, eb, _, _, HC.out.1.kept hkp HN.out.1 HN.out.2.1 HN.out.2.2.1 HN.out.2.2.2 h3.lg h3.lb, h3, HAP.out.drop x.o, by have h5 := List.length_filter_le (fun y => !isOwn x.o y) LA; have := HA.out.2.2.2.1; omega, by have h5 := List.length_filter_le (fun y => !isOwn x.o y) LB; have := HB.out.2.2.2.1; omega, by have := HA.out; omega, by have := HB.out; omega, HN.out⟩)
            clear h3 hkp n3 n4
            go_wp2_with fail
            go_meet
            exact HR.out
          have hb4 : (x.k == 4) = false := by simp [hk4]
          by_cases hk5 : x.k = 5
          · have hb5 : (x.k == 5) = true := by simp [hk5]
            clear hk5
            go_wp2_with fail
            refine (h_expire W2 HA.out.1 HA.out.2.1 x.n).mono ?_
            rintro e W3 ⟨v3, rfl, _, h3, hkp⟩
            have HC := Lib.hid (show Hold w W3 ga ba nm 4096 lf ea (LA.filter fun y => !isOver lf (tickI x.n) y) ∧ Hold w W3 gb bb nm 4096 lf eb LB ∧ Whole W3 wr.heap.size 49 (actC x).toArray from
              ⟨h3, HB.out.1.kept hkp (Ne.symm HN.out.1) (Ne.symm HN.out.2.2.1) (Ne.symm HN.out.2.1) (Ne.symm HN.out.2.2.2) h3.lg h3.lb, Whole.kept2 HF3.out.2 hkp (by have := HBL.out; omega) (by have := HBL.out; omega)⟩)
            clear h3 hkp n3 n4
            have n3 : W3.cell? ⟨wr.heap.size, 3, none⟩ = some (.int .i64 x.o) := HC.out.2.2.at_ 3
            have n4 : W3.cell? ⟨wr.heap.size, 4, none⟩ = some (.int .i64 x.n) := HC.out.2.2.at_ 4
            go_wp2_with fail
            refine (h_expire W3 HC.out.2.1 HB.out.2.1 x.n).mono ?_
            rintro e W4 ⟨v3, rfl, _, h3, hkp⟩
            have HR := Lib.hid (show TwoT w W4 nm lf ga ba gb bb (k + 1) from
              ⟨ea, eb, _, _, HC.out.1.kept hkp HN.out.1 HN.out.2.1 HN.out.2.2.1 HN.out.2.2.2 h3.lg h3.lb, h3, HAP.out.expire lf (tickI x.n), by have h5 := List.length_filter_le (fun y => !isOver lf (tickI x.n) y) LA; have := HA.out.2.2.2.1; omega, by have h5 := List.length_filter_le (fun y => !isOver lf (tickI x.n) y) LB; have := HB.out.2.2.2.1; omega, by have := HA.out; omega, by have := HB.out; omega, HN.out⟩)
            clear h3 hkp n3 n4
            go_wp2_with fail
            go_meet
            exact HR.out
          have hb5 : (x.k == 5) = false := by simp [hk5]
          have hq := HAP.out.take nm ea eb tt aa x.o x.n (by have := HA.out.2.2.2.1; have := HG.out; omega) (by have := HB.out.2.2.2.1; have := HG.out; omega)
          obtain ⟨ra, hra⟩ : ∃ ra, ra = takeM nm 4096 ea LA tt aa x.o x.n := ⟨_, rfl⟩
          obtain ⟨rb, hrb⟩ : ∃ rb, rb = takeM nm 4096 eb LB tt aa x.o x.n := ⟨_, rfl⟩
          have hta := takeM_ok nm 4096 ea tt aa x.o x.n HA.out.1.asc HA.out.1.lasts
          have htb := takeM_ok nm 4096 eb tt aa x.o x.n HB.out.1.asc HB.out.1.lasts
          have hca := takeM_code nm 4096 ea LA tt aa x.o x.n
          have hcb := takeM_code nm 4096 eb LB tt aa x.o x.n
          rw [← hra, ← hrb] at hq
          rw [← hra] at hta hca
          rw [← hrb] at htb hcb
          have HQ := Lib.hid hq
          have HTA := Lib.hid (And.intro hta.2.2 hca); have HTB := Lib.hid (And.intro htb.2.2 hcb)
          have hcall := h_take W2 HA.out.1 E HE.out HA.out.2.2.1 HA.out.2.1 tt aa x.o x.n HSZ.out.1 HSZ.out.2
          rw [← hra] at hcall
          have HCA := Lib.hid hcall
          clear hq hta htb hca hcb hcall hra hk2 hk3 hk4 hk5
          have HRB := Lib.hid hrb
          clear hrb
          go_wp2_with fail
          refine HCA.out.mono ?_
          rintro e W3 ⟨rfl, h3, hkp⟩
          have HC := Lib.hid (show Hold w W3 ga ba nm 4096 lf ra.ep ra.L ∧ Hold w W3 gb bb nm 4096 lf eb LB ∧ Whole W3 wr.heap.size 49 (actC x).toArray from
            ⟨h3, HB.out.1.kept hkp (Ne.symm HN.out.1) (Ne.symm HN.out.2.2.1) (Ne.symm HN.out.2.1) (Ne.symm HN.out.2.2.2) h3.lg h3.lb, Whole.kept2 HF3.out.2 hkp (by have := HBL.out; omega) (by have := HBL.out; omega)⟩)
          clear h3 hkp n3 n4
          unfold lseV
          by_cases hm : tt = sT
          · have hmb : (tt.toList == [116]) = true := by rw [hm, sT_list]; rfl
            have hap := HQ.out.1
            rw [if_pos hm] at hap
            have hwas := (HQ.out.2 hm).1
            have hcode := (HQ.out.2 hm).2
            have n3 : (W3.alloc (.cells (lseC ra.x).toArray 29)).cell? ⟨wr.heap.size, 3, none⟩ = some (.int .i64 x.o) := (HC.out.2.2.alloc _).at_ 3
            have n4 : (W3.alloc (.cells (lseC ra.x).toArray 29)).cell? ⟨wr.heap.size, 4, none⟩ = some (.int .i64 x.n) := (HC.out.2.2.alloc _).at_ 4
            unfold lseC at n3 n4
            have HAP2 := Lib.hid (And.intro hap (And.intro hwas hcode))
            have hcall := h_take (W3.alloc (.cells (lseC ra.x).toArray 29)) (HC.out.2.1.quiet ((Below.refl _ _).alloc (Nat.le_refl _) _)) E HE.out HB.out.2.2.1 HB.out.2.1 tt aa x.o x.n HSZ.out.1 HSZ.out.2
            rw [← HRB.out] at hcall
            have HCB := Lib.hid hcall
            clear hap hwas hcode hcall hm
            go_wp2_with fail
            refine HCB.out.mono ?_
            rintro e W4 ⟨rfl, h4, hkp⟩
            have HD := Lib.hid (show Hold w W4 ga ba nm 4096 lf ra.ep ra.L ∧ Hold w W4 gb bb nm 4096 lf rb.ep rb.L from
              ⟨(HC.out.1.quiet ((Below.refl _ _).alloc (Nat.le_refl _) _)).kept hkp HN.out.1 HN.out.2.1 HN.out.2.2.1 HN.out.2.2.2 h4.lg h4.lb, h4⟩)
            clear h4 hkp n3 n4
            unfold lseV
            have hwb : (ra.was == rb.was) = true := by rw [HAP2.out.2.1]; simp
            have hwe : ra.was = rb.was := HAP2.out.2.1
            go_wp2_with fail
            generalize hW : World.alloc _ _ = W5
            have HR := Lib.hid (show TwoT w W5 nm lf ga ba gb bb (k + 1) by
              subst hW
              exact ⟨ra.ep, rb.ep, _, _, HD.out.1.quiet ((Below.refl _ _).alloc (Nat.le_refl _) _), HD.out.2.quiet ((Below.refl _ _).alloc (Nat.le_refl _) _), HAP2.out.1, by have := HTA.out.1.1; have := HA.out.2.2.2.1; omega, by have := HTB.out.1.1; have := HB.out.2.2.2.1; omega, by have := HTA.out.1; have := HA.out; omega, by have := HTB.out.1; have := HB.out; omega, HN.out⟩)
            clear hW
            refine (code_errV E ra.code HTA.out.2 _ (HE.out.below HR.out.below)).mono ?_
            rintro e w' ⟨rfl, rfl⟩
            go_wp2_with fail
            refine (code_errV E rb.code HTB.out.2 _ (HE.out.below HR.out.below)).mono ?_
            rintro e w' ⟨rfl, rfl⟩
            have hcd : ra.code = rb.code := HAP2.out.2.2
            have hcb : ((ra.code : Int) == (rb.code : Int)) = true := by rw [hcd]; simp
            go_wp2_with fail
            go_meet
            exact HR.out
          · have hmb : (tt.toList == [116]) = false := by have := str_ne (s' := sT) hm; rwa [sT_list] at this
            have hap := HQ.out.1
            rw [if_neg hm] at hap
            have HR := Lib.hid (show TwoT w (W3.alloc (.cells (lseC ra.x).toArray 29)) nm lf ga ba gb bb (k + 1) from
              ⟨ra.ep, eb, _, _, HC.out.1.quiet ((Below.refl _ _).alloc (Nat.le_refl _) _), HC.out.2.1.quiet ((Below.refl _ _).alloc (Nat.le_refl _) _), hap, by have := HTA.out.1.1; have := HA.out.2.2.2.1; omega, by have := HB.out.2.2.2.1; omega, by have := HTA.out.1; have := HA.out; omega, by have := HB.out; omega, HN.out⟩)
            clear hap hm
            go_wp2_with fail
            go_meet
            exact HR.out
        case rest =>
          have HT2 := Lib.hid hcut
          clear hcut
          obtain ⟨ea, eb, LA, LB, hA, hB, hap, hla, hlb, hea, heb, hne⟩ := HT2.out
          have HA := Lib.hid (show Hold w wc ga ba nm 4096 lf ea LA ∧ LA.length ≤ 100000 from ⟨hA, by omega⟩)
          have HB := Lib.hid (show Hold w wc gb bb nm 4096 lf eb LB ∧ LB.length ≤ 100000 from ⟨hB, by omega⟩)
          have HAP := Lib.hid hap
          have hlaI : (LA.length : Int) ≤ 100000 := by omega
          have hlbI : (LB.length : Int) ≤ 100000 := by omega
          clear hA hB hap hla hlb hea heb hne
          go_wp2_with fail
          refine (h_all wc HA.out.1 HA.out.2).mono ?_
          rintro e W5 ⟨v, rfl, hv, _, hb5⟩
          have H5 := Lib.hid (And.intro hv hb5)
          obtain ⟨Av, cv, rfl⟩ := hv.len
          clear hv hb5
          go_wp2_with fail
          go_loopg [21, 152] LA.length (fun gq u j wq => ∃ q : Nat, gq + q = LA.length ∧ j = .int .i64 q ∧ Lows wq wc.heap.size 29 u ((LA.take q).filter isT) ∧ (u.ownBlock = none ∨ u.ownBlock ≠ (Value.slice Av LA.length cv).ownBlock) ∧ Lows wq wc.heap.size 29 (.slice Av LA.length cv) LA ∧ Below wc.heap.size wc wq)
          case atStart => exact ⟨0, rfl, rfl, Lows.nil _ _ _, .inl rfl, H5.out.1, H5.out.2⟩
          case round =>
            obtain ⟨q, hgq, rfl, hlu, hnu, hlv, hbq⟩ := hrel
            have HR := Lib.hid (show Lows wr wc.heap.size 29 (.slice Av LA.length cv) LA ∧ Below wc.heap.size wc wr ∧ Lows wr wc.heap.size 29 _ ((LA.take q).filter isT) ∧ (_ = none ∨ _ ≠ (Value.slice Av LA.length cv).ownBlock) from ⟨hlv, hbq, hlu, hnu⟩)
            clear hlv hbq hlu hnu
            by_cases hlt : q < LA.length
            · obtain ⟨y, hy⟩ : ∃ y, LA[q]? = some y := ⟨LA[q], List.getElem?_eq_getElem hlt⟩
              obtain ⟨gv, cap2, hv, hgB, hgl, hcell⟩ := HR.out.1.at_ hy
              injection hv with hv1 hv2 hv3
              subst hv1; subst hv3
              have f0 : wr.cell? ⟨gv, q * 5, none⟩ = some (.string y.t) := (hcell 0 _ rfl).1
              have f1 : wr.cell? ⟨gv, q * 5 + 1, none⟩ = some (.string y.a) := (hcell 1 _ rfl).1
              have f2 : wr.cell? ⟨gv, q * 5 + 2, none⟩ = some (.int .i64 y.o) := (hcell 2 _ rfl).1
              have f3 : wr.cell? ⟨gv, q * 5 + 3, none⟩ = some (.int .i64 y.e) := (hcell 3 _ rfl).1
              have f4 : wr.cell? ⟨gv, q * 5 + 4, none⟩ = some (.int .i64 y.l) := (hcell 4 _ rfl).1
              have HY := Lib.hid hy
              have HGQ := Lib.hid (And.intro hgq hgl)
              have hqi : (q : Int) < LA.length := by omega
              clear hy hcell hv2 hgl hgq
              by_cases hyt : y.t = sT
              · have hmb : (y.t.toList == [116]) = true := by rw [hyt, sT_list]; rfl
                have HE2 := Lib.hid (filter_yes (p := isT) HY.out (by unfold isT; simp [hyt]))
                clear hyt
                go_wp2_with (first
                  | (at_builtin; refine wpList_pushL rfl _ _ 34 rfl wc.heap.size 29 (lseV lse0) 56 Tryd.underlying34 lseInfo rfl (by omega) _ ((LA.take q).filter isT) y rfl ((HR.out.2.2.1.kept (World.grownBy_alloc _ _ none) (own_or _)).kept (World.grownBy_alloc _ _ none) (own_or _)) (wr.heap.size + 1) 1 rfl ?c3 ?c4 ?c5 ?_)
                  | fail)
                case c3 => exact Whole.new (by simp) rfl
                case c4 => have h1 := List.length_filter_le isT (LA.take q); rw [List.length_take] at h1; have := HA.out.2; omega
                case c5 => have := HR.out.2.1.size; simp; omega
                intro v' W7 h7 hg7 hloc
                clear f0 f1 f2 f3 f4 hmb
                have HF7 := Lib.hid (show Lows W7 wc.heap.size 29 v' ((LA.take (q + 1)).filter isT) ∧ (v'.ownBlock = none ∨ v'.ownBlock ≠ (Value.slice (some ⟨gv, 0, none⟩) LA.length cv).ownBlock) ∧ Lows W7 wc.heap.size 29 (.slice (some ⟨gv, 0, none⟩) LA.length cv) LA ∧ Below wc.heap.size wc W7 by
                  obtain ⟨q1, q2, q3, q4⟩ := HR.out
                  have hgl := HGQ.out.2
                  refine ⟨by rw [HE2.out]; exact h7, ?_, ((q1.kept (World.grownBy_alloc _ _ none) (own_or _)).kept (World.grownBy_alloc _ _ none) (own_or _)).kept hg7 (.inr ?_), ((q2.alloc q2.size _).alloc (by have := q2.size; simp; omega) _).grown hg7 (by have := q2.size; simp; omega) (fun k hk => (q3.lt k hk).1)⟩
                  · rcases hloc with h | h
                    · rw [h]; exact q4
                    · refine .inr (fun e => ?_)
                      rw [h] at e
                      simp [Value.ownBlock] at e
                      omega
                  · rcases q4 with h | h
                    · rw [h]; simp [Value.ownBlock]
                    · exact fun e => h e.symm)
                clear h7 hg7 hloc
                go_wp2_with fail
                go_roundg (LA.length - (q + 1))
                case measure => have := HGQ.out.1; omega
                case rel => exact ⟨q + 1, by have := HGQ.out.1; omega, by go_num, HF7.out⟩
              · have hmb : (y.t.toList == [116]) = false := by have := str_ne (s' := sT) hyt; rwa [sT_list] at this
                have HE2 := Lib.hid (filter_no (p := isT) HY.out (by unfold isT; simp [hyt]))
                clear hyt
                go_wp2_with fail
                go_roundg (LA.length - (q + 1))
                case measure => have := HGQ.out.1; omega
                case rel => exact ⟨q + 1, by have := HGQ.out.1; omega, by go_num, by rw [HE2.out]; exact HR.out.2.2.1.kept (World.grownBy_alloc _ _ none) (own_or _), HR.out.2.2.2, HR.out.1.kept (World.grownBy_alloc _ _ none) (own_or _), HR.out.2.1.alloc HR.out.2.1.size _⟩
            · have hql : q = LA.length := by omega
              subst hql
              obtain ⟨wb, rfl⟩ : ∃ wb : World, wb = wr := ⟨_, rfl⟩
              have hr := HR.out.2.2.1
              rw [List.take_length] at hr
              obtain ⟨Au, cu, hu⟩ := hr.len
              have HU := Lib.hid hr
              subst hu
              rw [HAP.out.length]
              clear hr hgq
              go_wp2_with fail
              refine (h_all wb (HB.out.1.quiet HR.out.2.1) HB.out.2).mono ?_
              rintro e W8 ⟨m, rfl, hm, _, hb8⟩
              obtain ⟨Am, cm, rfl⟩ := hm.len
              have H8 := Lib.hid (show Lows W8 wb.heap.size 29 (.slice Am LB.length cm) LB ∧ Below wb.heap.size wb W8 ∧ Below wc.heap.size wc W8 from ⟨hm, hb8, HR.out.2.1.trans (hb8.mono HR.out.2.1.size)⟩)
              clear hm hb8
              go_wp2_with fail
              refine (h_count W8 (HA.out.1.quiet H8.out.2.2) HA.out.2 sT).mono ?_
              rintro e W9 ⟨rfl, _, hb9⟩
              rw [HAP.out.cnt.1]
              obtain ⟨LF, hLF⟩ : ∃ LF, LF = LA.filter isT := ⟨_, rfl⟩
              have H9 := Lib.hid (show Below wc.heap.size wc W9 ∧ Lows W9 wb.heap.size 29 (.slice Am LB.length cm) LB ∧ Lows W9 wc.heap.size 29 (.slice Au LB.length cu) LF ∧ LF.length = LB.length ∧ LB.map e0 = LF.map e0 ∧ (∀ g, (Value.slice Au LB.length cu).ownBlock = some g → g < wb.heap.size) from by
                have h8 := H8.out
                have hu := HU.out
                rw [HAP.out.length] at hu
                have hlt := fun g (hg : (Value.slice Au LB.length cu).ownBlock = some g) => (hu.lt g hg).2
                refine ⟨h8.2.2.trans (hb9.mono h8.2.2.size), h8.1.below hb9 (fun g hg => (h8.1.lt g hg).2), ?_, by rw [hLF]; exact HAP.out.length, by rw [hLF]; exact HAP.out.same, hlt⟩
                rw [hLF]
                exact (hu.below h8.2.1 hlt).below hb9 (fun g hg => Nat.lt_of_lt_of_le (hlt g hg) h8.2.1.size))
              clear hb9 hLF
              go_wp2_with fail
              go_loopg [180] LB.length (fun gq j wq => ∃ q : Nat, gq + q = LB.length ∧ j = .int .i64 q ∧ Lows wq wb.heap.size 29 (.slice Am LB.length cm) (lostE LB q) ∧ Lows wq wc.heap.size 29 (.slice Au LB.length cu) (lostE LF q) ∧ TwoT w wq nm lf ga ba gb bb (k + 1))
              case atStart => exact ⟨0, rfl, rfl, H9.out.2.1, H9.out.2.2.1, HT2.out.quiet H9.out.1⟩
              case round =>
                obtain ⟨q, hgq, rfl, hlm, hlu, htt⟩ := hrel
                have HR3 := Lib.hid (And.intro hlm (And.intro hlu htt))
                have HGQ := Lib.hid hgq
                clear hlm hlu htt
                by_cases hlt : q < LB.length
                · obtain ⟨y, hy⟩ : ∃ y, LB[q]? = some y := ⟨LB[q], List.getElem?_eq_getElem hlt⟩
                  obtain ⟨z, hz⟩ : ∃ z, LF[q]? = some z := ⟨LF[q]'(by rw [H9.out.2.2.2.1]; exact hlt), List.getElem?_eq_getElem _⟩
                  have hyz : e0 y = e0 z := by
                    have h := congrArg (·[q]?) H9.out.2.2.2.2.1
                    simp only [List.getElem?_map, hy, hz, Option.map_some, Option.some.injEq] at h
                    exact h
                  obtain ⟨gu, cu2, hv, hguB, hgul, hcu⟩ := HR3.out.2.1.at_ (lostE_at hz)
                  injection hv with hv1 hv2 hv3
                  subst hv1; subst hv3
                  obtain ⟨gm, cm2, hv, hgmB, hgml, hcm⟩ := HR3.out.1.at_ (lostE_at hy)
                  injection hv with hv1 hv4 hv5
                  subst hv1; subst hv5
                  have hgux := H9.out.2.2.2.2.2 gu rfl
                  have HNE := Lib.hid (show gu ≠ gm ∧ (ga ≠ gu ∧ ba ≠ gu ∧ gb ≠ gu ∧ bb ≠ gu) ∧ (ga ≠ gm ∧ ba ≠ gm ∧ gb ≠ gm ∧ bb ≠ gm) ∧ w.heap.size ≤ gu ∧ w.heap.size ≤ gm by
                    have h1 := HA.out.1.row.inside; have h2 := HA.out.1.tab.lt; have h3 := HB.out.1.row.inside; have h4 := HB.out.1.tab.lt; have h5 := HA.out.1.below.size
                    have h6 := HR.out.2.1.size
                    omega)
                  have f0 : wr.cell? ⟨gu, q * 5 + 3, none⟩ = some (.int .i64 z.e) := (hcu 3 _ rfl).1
                  have f1 : wr.frozen? ⟨gu, q * 5 + 3, none⟩ = false := (hcu 3 _ rfl).2
                  have f2 : wr.cell? ⟨gm, q * 5 + 3, none⟩ = some (.int .i64 y.e) := (hcm 3 _ rfl).1
                  have f3 : wr.frozen? ⟨gm, q * 5 + 3, none⟩ = false := (hcm 3 _ rfl).2
                  have f4 : ¬ gm = gu := fun e => HNE.out.1 e.symm
                  have f5 : ¬ gu = gm := HNE.out.1
                  have hqi : (q : Int) < LB.length := by omega
                  have HYZ := Lib.hid (And.intro hy (And.intro hz hyz))
                  clear hy hz hyz hcu hcm hv2 hv4 hguB hgul hgmB hgml hgux hgq
                  go_upto_region 46 with fail
                  refine name_wp (fun W => Lows W wb.heap.size 29 (.slice (some ⟨gm, 0, none⟩) LB.length cm) (lostE LB (q + 1)) ∧ Lows W wc.heap.size 29 (.slice (some ⟨gu, 0, none⟩) LB.length cu) (lostE LF (q + 1)) ∧ TwoT w W nm lf ga ba gb bb (k + 1)) ?_ ?_
                  · have hs1 := only_stored (w := wr) (g := gu) ⟨gu, q * 5 + 3, none⟩ rfl (.int .i64 0)
                    have hs2 := only_stored (w := wr.setCell ⟨gu, q * 5 + 3, none⟩ (.int .i64 0)) (g := gm) ⟨gm, q * 5 + 3, none⟩ rfl (.int .i64 0)
                    have hu1 := (HR3.out.2.1).setE (by rw [lostE_length]; exact H9.out.2.2.2.1) q z (lostE_at HYZ.out.2.1)
                    rw [lostE_set HYZ.out.2.1] at hu1
                    have hm1 := (HR3.out.1.kept hs1 (.inr (by simpa [Value.ownBlock] using fun e => HNE.out.1 e.symm))).setE (lostE_length LB q) q y (lostE_at HYZ.out.1)
                    rw [lostE_set HYZ.out.1] at hm1
                    exact ⟨hm1, hu1.kept hs2 (.inr (by simpa [Value.ownBlock] using HNE.out.1)), (HR3.out.2.2.far hs1 HNE.out.2.1 HNE.out.2.2.2.1).far hs2 HNE.out.2.2.1 HNE.out.2.2.2.2⟩
                  intro W10 hF10
                  have HF10 := Lib.hid hF10
                  clear hF10 f0 f1 f2 f3
                  obtain ⟨_, _, hv, _, _, hcu⟩ := HF10.out.2.1.at_ (lostE_new HYZ.out.2.1)
                  injection hv with hv1 hv2 hv3
                  injection hv1 with hv1
                  injection hv1 with hv1
                  subst hv1
                  obtain ⟨_, _, hv, _, _, hcm⟩ := HF10.out.1.at_ (lostE_new HYZ.out.1)
                  injection hv with hv1 hv4 hv5
                  injection hv1 with hv1
                  injection hv1 with hv1
                  subst hv1
                  rw [HYZ.out.2.2] at hcm
                  have u0 : W10.cell? ⟨gu, q * 5, none⟩ = some (.string z.t) := (hcu 0 _ rfl).1
                  have u1 : W10.cell? ⟨gu, q * 5 + 1, none⟩ = some (.string z.a) := (hcu 1 _ rfl).1
                  have u2 : W10.cell? ⟨gu, q * 5 + 2, none⟩ = some (.int .i64 z.o) := (hcu 2 _ rfl).1
                  have u3 : W10.cell? ⟨gu, q * 5 + 3, none⟩ = some (.int .i64 0) := (hcu 3 _ rfl).1
                  have u4 : W10.cell? ⟨gu, q * 5 + 4, none⟩ = some (.int .i64 z.l) := (hcu 4 _ rfl).1
                  have m0 : W10.cell? ⟨gm, q * 5, none⟩ = some (.string z.t) := (hcm 0 _ rfl).1
                  have m1 : W10.cell? ⟨gm, q * 5 + 1, none⟩ = some (.string z.a) := (hcm 1 _ rfl).1
                  have m2 : W10.cell? ⟨gm, q * 5 + 2, none⟩ = some (.int .i64 z.o) := (hcm 2 _ rfl).1
                  have m3 : W10.cell? ⟨gm, q * 5 + 3, none⟩ = some (.int .i64 0) := (hcm 3 _ rfl).1
                  have m4 : W10.cell? ⟨gm, q * 5 + 4, none⟩ = some (.int .i64 z.l) := (hcm 4 _ rfl).1
                  clear hcu hcm hv2 hv3 hv4 hv5
                  have hnq := neq_lease (e0 z) (e0 z)
                  rw [eqL_self] at hnq
                  have hgd := guard_lease
                  simp only [lseC, e0] at hnq
                  have hq0 : (0 : Int) ≤ (q : Int) := by omega
                  go_quiet (fail)
                  clear u0 u1 u2 u3 u4 m0 m1 m2 m3 m4 hnq hgd
                  go_wp2_with fail
                  go_roundg (LB.length - (q + 1))
                  case measure => have := HGQ.out; omega
                  case rel => exact ⟨q + 1, by have := HGQ.out; omega, by go_num, HF10.out.1.drewN _, HF10.out.2.1.drewN _, HF10.out.2.2.quiet (below_drawnN (Below.refl _ _) _)⟩
                · have hi : ¬ (q : Int) < LB.length := by omega
                  clear hgq
                  go_wp2_with fail
                  go_roundg (100 - (k + 1))
                  case measure => have := HG.out; omega
                  case rel => exact ⟨k + 1, by have := HG.out; omega, by go_num, HR3.out.2.2⟩
      · have HIN := Lib.hid hin
        clear hin
        by_cases h1 : (k : Int) < xs.length
        · have h2 : ¬ (k : Int) < 100 := by have := HIN.out; omega
          go_wp2_with fail
          go_ret
          exact ⟨rfl, HH.out.below⟩
        · go_wp2_with fail
          go_ret
          exact ⟨rfl, HH.out.below⟩
end Go.Proofs.YtlkgdnmfgcmldaaDoor
