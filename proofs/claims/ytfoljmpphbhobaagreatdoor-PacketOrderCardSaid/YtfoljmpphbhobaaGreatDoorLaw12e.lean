/- The walk of PacketOrder: it answers true. -/
import Derived.Test.YtfoljmpphbhobaaGreatDoorLaw12d
namespace Go.Proofs.YtfoljmpphbhobaaGreatDoor
open Go.RowKit Go.Spk
set_option linter.unusedVariables false
attribute [local go_sem ↓] Go.wp_at_zero Go.wp_at_succ
/-- What the law holds while it packs: its writer, its key, the packets. -/
structure Ord (w W : World) (gw n k : Nat) (key : List Int) (v : Value) (ps : List ByteArray) : Prop where
  one : One w W gw n true key
  key : Whole W w.heap.size 25 (rowI .u8 key)
  own : W.ownsRow (gw + 1) 9 1 v k (ps.map Value.string)
  lt : w.heap.size < gw
theorem Ord.packed {w W W' : World} {gw n n' k : Nat} {key : List Int} {v : Value} {ps : List ByteArray} (h : Ord w W gw n k key v ps) (h' : Whole W' gw 29 (lineRow n' true key ++ #[])) (hg : W.grownBy W' (some gw)) : Ord w W' gw n' k key v ps :=
  ⟨h.one.to h' hg h.one.lk h.one.uk, h.key.only hg (ne_some (Nat.ne_of_lt h.lt)), h.own.kept hg (by
    cases hv : v.ownBlock with
    | none => exact .inl rfl
    | some k => exact .inr (by have := (h.own.lt k hv).1; intro e; injection e; omega)), h.lt⟩
theorem Ord.row {w W : World} {gw n k : Nat} {key : List Int} {v : Value} {ps : List ByteArray} (h : Ord w W gw n k key v ps) (i : Nat) (hi : i < gw + 1) : some i ≠ v.ownBlock := by
  intro e
  have := (h.own.lt i e.symm).1
  omega
theorem Ord.push {w W W' : World} {gw n k : Nat} {key : List Int} {v v' : Value} {ps : List ByteArray} {p : ByteArray} (h : Ord w W gw n k key v ps) (hg : W.grownBy W' v.ownBlock)
    (ho : W'.ownsRow (gw + 1) 9 1 v' (k + 1) (ps.map Value.string ++ [.string p])) : Ord w W' gw n (k + 1) key v' (ps ++ [p]) :=
  ⟨⟨h.one.below.grown hg h.one.below.size (fun i hi => by have := (h.own.lt i hi).1; have := h.lt; omega), h.one.wr.only hg (h.row gw (by omega)), h.one.lw, h.one.lk, h.one.uk⟩,
   h.key.only hg (h.row _ (by have := h.lt; omega)), by rw [List.map_append]; exact ho, h.lt⟩
theorem Ord.alloc {w W : World} {gw n k : Nat} {key : List Int} {v : Value} {ps : List ByteArray} (h : Ord w W gw n k key v ps) (o : Obj) : Ord w (W.alloc o) gw n k key v ps :=
  ⟨⟨h.one.below.alloc h.one.below.size _, h.one.wr.alloc _, h.one.lw, h.one.lk, h.one.uk⟩, h.key.alloc _, h.own.alloc _, h.lt⟩
/-- append of one string to the law's packets. -/
theorem Ord.append {w W : World} {gw n k : Nat} {key : List Int} {B : Option Addr} {c : Nat} {ps : List ByteArray} (h : Ord w W gw n k key (.slice B k c) ps)
    {ops : Array Oper} {rest : List Oper} {o : Oper} {a : Act} {Q : Exit → Act → World → Prop} (hgd : o.guard = none) (s x : Operand)
    (ho : o.op = .call { callee := .builtin .append, args := #[s, x], argTypes := #[51, 51] })
    (hs : a.eval s = .slice B k c) (p : ByteArray) (hx : a.eval x = .slice (some ⟨W.heap.size, 0, none⟩) 1 1) (hk : k ≤ 1000)
    (hK : ∀ g cap w', Ord w w' gw n (k + 1) key (.slice (some ⟨g, 0, none⟩) (k + 1) cap) (ps ++ [p]) → wpList Tryz.prog ops Q rest (a.put o.dst (.slice (some ⟨g, 0, none⟩) (k + 1) cap)) w') :
    wpList Tryz.prog ops Q (o :: rest) a (W.alloc (.cells #[.string p] 9)) := by
  obtain ⟨i, hi0, hi1, hi2, hi3⟩ := info_parts (show (Tryz.prog.info? 9).map (fun i => (i.zero, i.size, i.bytes)) = some (some (.string ⟨#[]⟩), 1, 16) by kernel_rfl)
  have h2 := h.alloc (.cells #[.string p] 9)
  refine wpList_append_lies _ hgd s x 51 ho (gw + 1) 9 i (.string ⟨#[]⟩) 1 16 Tryz.underlying51 hi0 hi1 hi2 hi3 rfl (by omega) (.slice B k c) k _ hs h2.own ⟨W.heap.size, 0, none⟩ 1 1 [.string p] hx (by simp) ?_ ?_ (by omega) (by unfold maxLen; omega) (by omega) (by have := h.one.wr.inside; simp; omega) _ rfl ?_
  · intro j u hu
    obtain ⟨rfl, rfl⟩ : j = 0 ∧ u = .string p := by
      cases j with
      | zero => simp at hu; exact ⟨rfl, hu.symm⟩
      | succ j => simp at hu
    show World.cell? _ ((⟨W.heap.size, 0, none⟩ : Addr).add 0) = _
    rw [Addr.add_mid]
    simp
  · intro u hu
    simp at hu
    subst hu
    rfl
  · intro g cap w' h3 h4 _ _
    exact hK g cap w' (h2.push h4 h3)
set_option maxRecDepth 100000 in
set_option maxHeartbeats 8000000 in
theorem order12_calls (key : List Int) (hk : key.length = 32) (bk : U8s key) (A : Option Addr) (ls : List ByteArray) (cap : Nat) (A2 : Option Addr) (zs : List Int) (cap2 : Nat) (hl : ls.length ≤ maxLen) (hl2 : zs.length ≤ maxLen)
   (E : Nat → Addr) (w : World) (hLs : Rd w A (ls.map Value.string)) (hZ : Rd w A2 (zs.map (Value.int .i64))) (hE : Errs w E)
   (t0 : w.rangeAt 21 0 (beginI.map (Value.int .u32))) (t1 : w.rangeAt 22 0 orderC) :
    Calls Tryz.prog 5 #[.agg (rowI .u8 key), .slice A ls.length cap, .slice A2 zs.length cap2] w fun e w' => e = .returned (.bool true) ∧ Below w.heap.size w w' := by
  have T0 := Lib.hid t0; have T1 := Lib.hid t1; have HE := Lib.hid hE; have HLS := Lib.hid hLs; have HZ := Lib.hid hZ
  have H1 := Lib.hid (show (Tryz.prog.info? 25).map (·.size) = some (rowI .u8 key).size by rw [rowI_size, hk]; kernel_rfl)
  have HK := Lib.hid hk; have BK := Lib.hid bk
  unfold maxLen at hl hl2
  clear t0 t1 hE hk bk hLs hZ
  go_enter Tryz.func5, Tryz.ntmps5
  go_wp2_with fail
  generalize hW : w.alloc _ = W0
  have hF0 : Below w.heap.size w W0 ∧ Whole W0 w.heap.size 25 (rowI .u8 key) := by
    subst hW; exact ⟨by go_grown, Whole.new rfl rfl⟩
  have HF0 := Lib.hid hF0
  clear hW hF0
  refine (awake12_calls E W0 (HE.out.below HF0.out.1).four (rangeAt_below T0.out HF0.out.1) (rangeAt_below T1.out HF0.out.1)).mono ?_
  rintro e W1 ⟨rfl, hb1⟩
  have HF1 := Lib.hid (And.intro (HF0.out.1.trans (hb1.mono HF0.out.1.size)) (HF0.out.2.below hb1 HF0.out.2.inside))
  clear hb1
  obtain ⟨gw, hgw⟩ : ∃ gw, gw = W1.heap.size := ⟨_, rfl⟩
  have hr1 : Whole (W1.alloc (.cells (lineRow 0 false z32 ++ #[]) 29)) w.heap.size 25 (rowI .u8 key) := HF1.out.2.alloc _
  go_wp2_with (first
    | (refine wpList_load_row rfl 25 (.tmp 3) rfl _ rfl 25 (rowI .u8 key) (0, 0) _ hr1 Tryz.underlying25 rfl H1.out ?_)
    | fail)
  clear hr1
  rw [← hgw]
  generalize hW : W1.alloc _ = W2
  have HT2 := Lib.hid (show One w W2 gw 0 false z32 ∧ Whole W2 w.heap.size 25 (rowI .u8 key) ∧ w.heap.size < gw by
    subst hW; subst hgw
    exact ⟨One.new HF1.out.1, HF1.out.2.alloc _, HF1.out.2.inside⟩)
  clear hW hgw
  refine (wseal_calls gw 0 false z32 key _ #[] z32_len HK.out W2 HT2.out.1.wr).mono ?_
  rintro e W3 ⟨rfl, h3, g3⟩
  have HT3 := Lib.hid (show Ord w W3 gw 0 0 key (.slice none 0 0) [] from ⟨HT2.out.1.to h3 g3 HK.out BK.out, HT2.out.2.1.only g3 (ne_some (Nat.ne_of_lt HT2.out.2.2)), World.ownsRow_nil _ _ _ _, HT2.out.2.2⟩)
  clear h3 g3
  go_wp2_with fail
  go_loopw [8, 9] (fun v i wr => ∃ (k : Nat) (B : Option Addr) (c : Nat) (ps : List ByteArray), k ≤ 5 ∧ ps.length = k ∧ i = .int .i64 k ∧ v = .slice B k c ∧ (∀ p ∈ ps, p.size ≤ 1100) ∧ Ord w wr gw k k key v ps) (fun _ i _ => (6 - intOf i).toNat)
  case atStart => exact ⟨0, none, 0, [], by omega, rfl, rfl, rfl, (fun p hp => by cases hp), HT3.out⟩
  case round =>
    obtain ⟨k, B, c, ps, hk, hpl, rfl, rfl, hps, hT⟩ := hrel
    have HT := Lib.hid hT; have HPS := Lib.hid hps; have HPL := Lib.hid hpl
    clear hT HT3 hps hpl
    by_cases hlt : k < ls.length ∧ k < 5
    · obtain ⟨hlt1, hlt2⟩ := hlt
      obtain ⟨ad, rfl, _, hcell⟩ := (HLS.out.below HT.out.one.below).at_ (k := k) (by rw [List.length_map]; exact hlt1)
      rw [List.getElem_map] at hcell
      generalize (ls[k]'hlt1) = l0 at hcell
      have i1 : (k : Int) < ls.length := by omega
      have i2 : (k : Int) < 5 := by omega
      go_wp2_with fail
      refine (cut_calls l0 30 (by decide) _).mono ?_
      rintro e wr' ⟨⟨s, rfl, hcut, hsz⟩, rfl⟩
      have hcat : (ByteArray.mk #[112]).size + s.size ≤ 9223372036854775807 := by show 1 + s.size ≤ _; omega
      obtain ⟨p, hp⟩ : ∃ p, p = ByteArray.mk #[112] ++ s := ⟨_, rfl⟩
      have HZS := Lib.hid (show 1 ≤ p.size ∧ p.size ≤ 31 by rw [hp, ByteArray.size_append]; show 1 ≤ 1 + s.size ∧ 1 + s.size ≤ 31; omega)
      have HPE := Lib.hid hp.symm
      clear hcut hp hcell
      go_wp2_with fail
      clear hcat hsz
      rw [HPE.out]
      obtain ⟨P, hP⟩ : ∃ P, P = strOfNums (packI true key k (bI p)) := ⟨_, rfl⟩
      have HP := Lib.hid hP
      have HPZ := Lib.hid (show P.size ≤ 1100 from hP ▸ packed_size true key k p (by have := HZS.out; omega))
      refine (pack_calls gw k true key p HK.out BK.out HZS.out.1 (by have := HZS.out; omega) (by omega) wr HT.out.one.wr (rangeAt_below T0.out HT.out.one.below) (rangeAt_below T1.out HT.out.one.below)).mono ?_
      rw [← hP]
      rintro e W4 ⟨rfl, h4, g4⟩
      have HT4 := Lib.hid (HT.out.packed h4 g4)
      clear h4 g4 hP HT
      go_wp2_with (at_builtin; refine HT4.out.append rfl (.tmp 49) (.tmp 51) rfl rfl P rfl (by omega) ?_; intro g' cap' wz hO1)
      go_roundw
      case rel => exact ⟨k + 1, some ⟨g', 0, none⟩, cap', ps ++ [P], by omega, by rw [List.length_append, HPL.out]; rfl, by go_num, rfl, (fun q hq => by
        rcases List.mem_append.1 hq with h | h
        · exact HPS.out q h
        · obtain rfl := List.mem_singleton.1 h; exact HPZ.out), by
          have h := hO1
          exact h⟩
      case measure => simp [intOf]; omega
    · have hx : ((k : Int) < ls.length ∧ ¬ (k : Int) < 5) ∨ ¬ (k : Int) < ls.length := by omega
      rcases hx with ⟨i1, i2⟩ | i1
      all_goals
        go_wp2_with fail
        go_loopw [12, 13] (fun v i wr => ∃ (j : Nat) (S : ByteArray), j ≤ 7 ∧ i = .int .i64 j ∧ v = .string S ∧ S.size ≤ 1100 * j ∧ Ord w wr gw k k key (.slice B k c) ps) (fun _ i _ => (8 - intOf i).toNat)
        case atStart => exact ⟨0, ⟨#[]⟩, by omega, rfl, rfl, Nat.le_refl _, HT.out⟩
        case round =>
          obtain ⟨j, S, hj, rfl, rfl, hS, hT⟩ := hrel
          have HT5 := Lib.hid hT; have HS := Lib.hid hS
          clear hT hS
          by_cases hlt2 : (j < zs.length ∧ j < 7) ∧ 0 < k
          · obtain ⟨⟨hlt1, hlt2⟩, hk0⟩ := hlt2
            obtain ⟨ad2, rfl, _, hcell⟩ := (HZ.out.below HT5.out.one.below).at_ (k := j) (by rw [List.length_map]; exact hlt1)
            rw [List.getElem_map] at hcell
            obtain ⟨a, ha, ea⟩ := and_low (zs[j]'hlt1) 65535 (by decide)
            rw [show ((65535 : Nat) : Int) = 65535 from rfl] at ea
            generalize (zs[j]'hlt1) = z at hcell ea
            obtain ⟨q, hq⟩ : ∃ q, q = a % k := ⟨_, rfl⟩
            have hrem : Int.tmod (a : Int) (k : Int) = (q : Int) := by rw [hq]; exact (Int.ofNat_tmod _ _).symm
            have hqk : q < k := by rw [hq]; exact Nat.mod_lt _ hk0
            obtain ⟨ad3, rfl, _, hcell2⟩ := (Rd.of_own HT5.out.own (fun _ => hk0)).at_ (k := q) (by rw [List.length_map, HPL.out]; exact hqk)
            rw [List.getElem_map] at hcell2
            have HPQ := Lib.hid (HPS.out (ps[q]'(by rw [HPL.out]; exact hqk)) (List.getElem_mem _))
            generalize (ps[q]'(by rw [HPL.out]; exact hqk)) = P at hcell2 HPQ
            have hqk' : (q : Int) < k := by omega
            have hnz : ¬ (k : Int) = 0 := by omega
            have j1 : (j : Int) < zs.length := by omega
            have j2 : (j : Int) < 7 := by omega
            have j3 : (0 : Int) < k := by omega
            have hcat : S.size + P.size ≤ 9223372036854775807 := by have := HS.out; have := HPQ.out; omega
            subst hq
            go_wp2_with fail
            go_roundw
            case rel => exact ⟨j + 1, S ++ P, by omega, by go_num, rfl, by rw [ByteArray.size_append]; have := HS.out; have := HPQ.out; omega, HT5.out⟩
            case measure => simp [intOf]; omega
          · obtain ⟨gr, hgr⟩ : ∃ gr, gr = wr.heap.size := ⟨_, rfl⟩
            have hr6 : Whole (wr.alloc (.cells (lineRow 0 false z32 ++ #[.string ⟨#[]⟩, .nilIface]) 44)) w.heap.size 25 (rowI .u8 key) := HT5.out.key.alloc _
            have hx : ((j : Int) < zs.length ∧ (j : Int) < 7 ∧ ¬ (0 : Int) < k) ∨ ((j : Int) < zs.length ∧ ¬ (j : Int) < 7) ∨ ¬ (j : Int) < zs.length := by omega
            rcases hx with ⟨j1, j2, j3⟩ | ⟨j1, j2⟩ | j1
            all_goals try (exfalso; omega)
            all_goals
              go_wp2_with (first
                | (refine wpList_load_row rfl 25 (.tmp 3) rfl _ rfl 25 (rowI .u8 key) (0, 0) _ hr6 Tryz.underlying25 rfl H1.out ?_)
                | fail)
              clear hr6
              rw [← hgr]
              generalize hW : World.alloc wr _ = W7
              have HF7 := Lib.hid (show Below w.heap.size w W7 ∧ Whole W7 w.heap.size 25 (rowI .u8 key) ∧ Whole W7 gr 44 (lineRow 0 false z32 ++ #[.string ⟨#[]⟩, .nilIface]) ∧ w.heap.size < gr by
                subst hW; subst hgr
                exact ⟨HT5.out.one.below.alloc HT5.out.one.below.size _, HT5.out.key.alloc _, Whole.new rfl reader_new, HT5.out.key.inside⟩)
              clear hW hgr
              refine (ropenR_calls gr 0 false z32 key _ _ z32_len HK.out W7 HF7.out.2.2.1).mono ?_
              rintro e W8 ⟨rfl, h8, g8⟩
              have HF8 := Lib.hid (show Below w.heap.size w W8 ∧ Whole W8 w.heap.size 25 (rowI .u8 key) ∧ Whole W8 gr 44 (lineRow 0 true key ++ #[.string ⟨#[]⟩, .nilIface]) from
                ⟨below_some HF7.out.1 g8 (Nat.le_of_lt HF7.out.2.2.2), HF7.out.2.1.only g8 (ne_some (Nat.ne_of_lt HF7.out.2.2.2)), h8⟩)
              clear h8 g8
              go_wp2_with fail
              refine (feed_w gr 0 true key ⟨#[]⟩ HK.out W8 HF8.out.2.2 S (by have := HS.out; show 0 + S.size ≤ _; omega)).mono ?_
              rw [nil_cat]
              rintro e W9 ⟨rfl, h9, g9⟩
              have HF9 := Lib.hid (show Below w.heap.size w W9 ∧ Whole W9 w.heap.size 25 (rowI .u8 key) ∧ Whole W9 gr 44 (lineRow 0 true key ++ #[.string S, .nilIface]) from
                ⟨below_some HF8.out.1 g9 (Nat.le_of_lt HF7.out.2.2.2), HF8.out.2.1.only g9 (ne_some (Nat.ne_of_lt HF7.out.2.2.2)), h9⟩)
              clear h9 g9
              go_wp2_with fail
              go_loopw [12, 85] (fun v i wr => ∃ (m : Nat) (S : ByteArray), m ≤ 8 ∧ i = .int .i64 m ∧ v = .string S ∧ S.size ≤ 7700 ∧ Below w.heap.size w wr ∧ Whole wr w.heap.size 25 (rowI .u8 key) ∧ Whole wr gr 44 (lineRow m true key ++ #[.string S, .nilIface])) (fun _ i _ => (9 - intOf i).toNat)
              case atStart => exact ⟨0, S, by omega, rfl, rfl, by have := HS.out; omega, HF9.out⟩
              case round =>
                obtain ⟨m, S2, hm, rfl, rfl, hS2, hF⟩ := hrel
                have HF := Lib.hid hF; have HS2 := Lib.hid hS2
                clear hF hS2
                by_cases hm8 : m < 8
                · have m1 : (m : Int) < 8 := by omega
                  have hcv := run_convert_bytes_arg (P := Tryz.prog) wr 33 5 Tryz.underlying33 Tryz.underlying5 w.heap.size 0 32 32 key HK.out (fun q hq => by rw [Nat.zero_add, HF.out.2.1.int q (by rw [HK.out]; exact hq)]; rfl) 9 Tryz.underlying9
                  go_wp2_with fail
                  clear hcv
                  rcases readI_cases true key m (bI S2) with ⟨out, rest, hri, hrest, _, hou⟩ | hri | ⟨ec, hec, hri⟩
                  · have HRI := Lib.hid hri
                    obtain ⟨O, hO⟩ : ∃ O, O = strOfNums out := ⟨_, rfl⟩
                    obtain ⟨RS, hRS⟩ : ∃ RS, RS = strOfNums rest := ⟨_, rfl⟩
                    have HRV := Lib.hid (show readV (0, true, out, rest) = .tuple #[.string O, .string RS, .bool true, .int .i64 0] by rw [hO, hRS]; rfl)
                    have HRZ := Lib.hid (show RS.size ≤ 7700 by
                      have h := HS2.out
                      rw [hRS, str_size, hrest, List.length_drop, bI_length]; omega)
                    have HO := Lib.hid hO; have HRS := Lib.hid hRS
                    clear hri hrest hou hO hRS
                    refine (show Calls Tryz.prog 17 #[.string S2, .string (strOfNums key), .int .i64 m] wr (fun e w' => e = .returned (.tuple #[.string O, .string RS, .bool true, .int .i64 0]) ∧ Below wr.heap.size wr w') from (by have h := rread_calls true key m S2 HK.out BK.out (by omega) (by have := HS2.out; omega) wr _ HRI.out; rw [HRV.out] at h; exact h)).mono ?_
                    rintro e W10 ⟨rfl, hb10⟩
                    have HF10 := Lib.hid (show Below w.heap.size w W10 ∧ Whole W10 w.heap.size 25 (rowI .u8 key) ∧ Whole W10 gr 44 (lineRow m true key ++ #[.string S2, .nilIface]) from
                      ⟨HF.out.1.trans (hb10.mono HF.out.1.size), HF.out.2.1.below hb10 HF.out.2.1.inside, HF.out.2.2.below hb10 HF.out.2.2.inside⟩)
                    clear hb10
                    go_wp2_with fail
                    refine (next_yes gr m true key S2 E HK.out BK.out (by omega) (by have := HS2.out; omega) W10 (HE.out.below HF10.out.1).four HF10.out.2.2 (rangeAt_below T0.out HF10.out.1) (rangeAt_below T1.out HF10.out.1) out rest HRI.out).mono ?_
                    rintro e W11 ⟨rfl, h11, g11⟩
                    rw [← HO.out]
                    rw [← HRS.out] at h11
                    have HF11 := Lib.hid (show Below w.heap.size w W11 ∧ Whole W11 w.heap.size 25 (rowI .u8 key) ∧ Whole W11 gr 44 (lineRow (m + 1) true key ++ #[.string RS, .nilIface]) from
                      ⟨below_some HF10.out.1 g11 (Nat.le_of_lt HF7.out.2.2.2), HF10.out.2.1.only g11 (ne_some (Nat.ne_of_lt HF7.out.2.2.2)), h11⟩)
                    clear h11 g11
                    go_wp2_with fail
                    refine (code_nil _).mono ?_
                    rintro e w5 ⟨rfl, rfl⟩
                    go_wp2_with fail
                    go_roundw
                    case rel => exact ⟨m + 1, RS, by omega, by go_num, rfl, HRZ.out, HF11.out⟩
                    case measure => simp [intOf]; omega
                  · have HRI := Lib.hid hri
                    obtain ⟨RS, hRS⟩ : ∃ RS, RS = strOfNums (bI S2) := ⟨_, rfl⟩
                    have HRV := Lib.hid (show readV (0, false, [], bI S2) = .tuple #[.string ⟨#[]⟩, .string RS, .bool false, .int .i64 0] by rw [hRS]; rfl)
                    clear hri hRS
                    refine (show Calls Tryz.prog 17 #[.string S2, .string (strOfNums key), .int .i64 m] wr (fun e w' => e = .returned (.tuple #[.string ⟨#[]⟩, .string RS, .bool false, .int .i64 0]) ∧ Below wr.heap.size wr w') from (by have h := rread_calls true key m S2 HK.out BK.out (by omega) (by have := HS2.out; omega) wr _ HRI.out; rw [HRV.out] at h; exact h)).mono ?_
                    rintro e W10 ⟨rfl, hb10⟩
                    have HF10 := Lib.hid (show Below w.heap.size w W10 ∧ Whole W10 w.heap.size 25 (rowI .u8 key) ∧ Whole W10 gr 44 (lineRow m true key ++ #[.string S2, .nilIface]) from
                      ⟨HF.out.1.trans (hb10.mono HF.out.1.size), HF.out.2.1.below hb10 HF.out.2.1.inside, HF.out.2.2.below hb10 HF.out.2.2.inside⟩)
                    clear hb10
                    go_wp2_with fail
                    refine (next_no gr m true key S2 E HK.out BK.out (by omega) (by have := HS2.out; omega) W10 (HE.out.below HF10.out.1).four HF10.out.2.2 (rangeAt_below T0.out HF10.out.1) (rangeAt_below T1.out HF10.out.1) _ _ HRI.out).mono ?_
                    rintro e W11 ⟨rfl, hb11⟩
                    have HF11 := Lib.hid (show Below w.heap.size w W11 ∧ Whole W11 gr 44 (lineRow m true key ++ #[.string S2, .nilIface]) from
                      ⟨HF10.out.1.trans (hb11.mono HF10.out.1.size), HF10.out.2.2.below hb11 HF10.out.2.2.inside⟩)
                    clear hb11
                    go_wp2_with fail
                    refine (code_nil _).mono ?_
                    rintro e w5 ⟨rfl, rfl⟩
                    have c0 := (line_cells HF11.out.2).1
                    have hwk : IntKind.u64.wrap (m : Int) = (m : Int) := by
                      have e : IntKind.u64.wrap (m : Int) = (m : Int) % 18446744073709551616 := by simp [IntKind.wrap, IntKind.bits, IntKind.signed]
                      rw [e]; omega
                    go_wp2_with fail
                    refine (count_calls gr m _ c0).mono ?_
                    rintro e w6 ⟨rfl, hw⟩
                    obtain rfl := hw.symm
                    go_wp2_with fail
                    go_ret
                    exact ⟨rfl, HF11.out.1⟩
                  · have HRI := Lib.hid hri
                    have HRV := Lib.hid (show readV ((ec : Int) + 1, false, [], []) = .tuple #[.string ⟨#[]⟩, .string ⟨#[]⟩, .bool false, .int .i64 ((ec : Int) + 1)] from rfl)
                    clear hri
                    refine (show Calls Tryz.prog 17 #[.string S2, .string (strOfNums key), .int .i64 m] wr (fun e w' => e = .returned (.tuple #[.string ⟨#[]⟩, .string ⟨#[]⟩, .bool false, .int .i64 ((ec : Int) + 1)]) ∧ Below wr.heap.size wr w') from (by have h := rread_calls true key m S2 HK.out BK.out (by omega) (by have := HS2.out; omega) wr _ HRI.out; rw [HRV.out] at h; exact h)).mono ?_
                    rintro e W10 ⟨rfl, hb10⟩
                    have HF10 := Lib.hid (show Below w.heap.size w W10 ∧ Whole W10 w.heap.size 25 (rowI .u8 key) ∧ Whole W10 gr 44 (lineRow m true key ++ #[.string S2, .nilIface]) from
                      ⟨HF.out.1.trans (hb10.mono HF.out.1.size), HF.out.2.1.below hb10 HF.out.2.1.inside, HF.out.2.2.below hb10 HF.out.2.2.inside⟩)
                    clear hb10
                    go_wp2_with fail
                    refine (next_err gr m true key S2 E HK.out BK.out (by omega) (by have := HS2.out; omega) W10 (HE.out.below HF10.out.1).four HF10.out.2.2 (rangeAt_below T0.out HF10.out.1) (rangeAt_below T1.out HF10.out.1) ec HRI.out).mono ?_
                    rintro e W11 ⟨pF, rfl, h11, g11, _, p11⟩
                    have HF11 := Lib.hid (And.intro (below_some HF10.out.1 g11 (Nat.le_of_lt HF7.out.2.2.2)) h11)
                    have HPF := Lib.hid p11
                    clear h11 g11 p11
                    unfold faultV
                    go_wp2_with fail
                    refine (code_fault E ec hec pF 0 W11 (HE.out.below HF11.out.1) (by rw [HPF.out.at_]; rfl)).mono ?_
                    rintro e w5 ⟨rfl, rfl⟩
                    have c0 := (line_cells HF11.out.2).1
                    have hwk : IntKind.u64.wrap (m : Int) = (m : Int) := by
                      have e : IntKind.u64.wrap (m : Int) = (m : Int) % 18446744073709551616 := by simp [IntKind.wrap, IntKind.bits, IntKind.signed]
                      rw [e]; omega
                    go_wp2_with fail
                    refine (count_calls gr m _ c0).mono ?_
                    rintro e w6 ⟨rfl, hw⟩
                    obtain rfl := hw.symm
                    go_wp2_with fail
                    go_ret
                    exact ⟨rfl, HF11.out.1⟩
                · have m1 : ¬ (m : Int) < 8 := by omega
                  go_wp2_with fail
                  go_ret
                  exact ⟨rfl, HF.out.1⟩
end Go.Proofs.YtfoljmpphbhobaaGreatDoor
