/- The walk of PacketParts: it answers true. -/
import Derived.Test.YtfoljmpphbhobaaDoorLaw12a
namespace Go.Proofs.YtfoljmpphbhobaaDoor
open Go.RowKit Go.Spk
set_option linter.unusedVariables false
attribute [local go_sem ↓] Go.wp_at_zero Go.wp_at_succ
/-- An Item: is it a key, which, a payload. -/
structure Itm where
  lock : Bool
  key : List Int
  s : ByteArray
/-- A slice of Items, as it lies in memory. -/
def ItemsAt (w : World) (A : Option Addr) (its : List Itm) : Prop :=
  ∀ j it, its[j]? = some it → it.key.length = 32 ∧ U8s it.key ∧ ∃ B o, A = some ⟨B, o, none⟩ ∧ B < w.heap.size ∧ w.cell? ⟨B, o + j * 34, none⟩ = some (.bool it.lock) ∧ w.rangeAt B (o + j * 34 + 1) (it.key.map (Value.int .u8)) ∧ w.cell? ⟨B, o + j * 34 + 33, none⟩ = some (.string it.s)
theorem ItemsAt.below {w w' : World} {A : Option Addr} {its : List Itm} (h : ItemsAt w A its) (hb : Below w.heap.size w w') : ItemsAt w' A its := by
  intro j it hj
  obtain ⟨h1, h2, B, o, h3, h4, h5, h6, h7⟩ := h j it hj
  exact ⟨h1, h2, B, o, h3, Nat.lt_of_lt_of_le h4 hb.size, (hb.cell (p := ⟨B, _, none⟩) h4).trans h5, rangeAt_below h6 hb, (hb.cell (p := ⟨B, _, none⟩) h4).trans h7⟩
def szOf : Value → Nat
  | .string s => s.size
  | _ => 0
theorem pack_size (b : Bool) (ks : List Int) (n : Nat) (p P : ByteArray) (hP : P = strOfNums (packI b ks n (bI p))) (hl : p.size ≤ 100) : P.size ≤ 132 := by
  have := padP_bd b p.size
  rw [hP, str_size, packI_length, bI_length]
  unfold allR tagN
  split <;> omega
theorem part_waits (b : Bool) (ks : List Int) (n : Nat) (p P qs ps : ByteArray) (hP : P = strOfNums (packI b ks n (bI p))) (h1 : 1 ≤ p.size) (hl : p.size ≤ 32768) (hq : bI P = bI qs ++ bI ps) (hp : 1 ≤ ps.size) :
    readI b ks n (bI qs) = (0, false, [], bI qs) := by
  have e : bI P = packI b ks n (bI p) := by rw [hP, bI_str (packI_mem b ks n _ (U8s_bI p))]
  have e2 : bI qs = (packI b ks n (bI p)).take qs.size := by rw [← e, hq, List.take_left' (bI_length qs)]
  have hk : qs.size < (packI b ks n (bI p)).length := by rw [← e, hq, List.length_append, bI_length, bI_length]; omega
  have h := read_part b ks n (bI p) (by rw [bI_length]; exact h1) (by rw [bI_length]; exact hl) qs.size hk
  rw [← e2] at h
  exact h
theorem parts_move (P qs ps : ByteArray) (c : Nat) (h : bI P = bI qs ++ bI ps) : bI P = bI (qs ++ ps.extract 0 c) ++ bI (ps.extract c ps.size) := by
  rw [h, bI_cat, bI_mid, bI_cut, List.append_assoc]
  simp
theorem ext_none (s : ByteArray) : s.extract s.size s.size = ⟨#[]⟩ := by
  apply bI_ext
  rw [bI_cut]
  have := bI_length s
  rw [List.drop_of_length_le (by omega)]
  rfl
theorem size_zero {s : ByteArray} (h : s.size = 0) : s = ⟨#[]⟩ := by
  apply bI_ext
  have : (bI s).length = 0 := by rw [bI_length]; exact h
  rw [List.length_eq_zero_iff.1 this]
  rfl
set_option maxRecDepth 100000 in
set_option maxHeartbeats 8000000 in
theorem parts_calls (A : Option Addr) (its : List Itm) (cap : Nat) (A2 : Option Addr) (zs : List Int) (cap2 : Nat) (hl : its.length ≤ maxLen) (hl2 : zs.length ≤ maxLen) (E : Nat → Addr) (w : World) (hI : ItemsAt w A its) (hZ : Rd w A2 (zs.map (Value.int .i64))) (hE : Er4 w E)
   (t0 : w.rangeAt 0 0 (beginI.map (Value.int .u32))) (t1 : w.rangeAt 1 0 orderC) :
    Calls Tryd.prog 11 #[.slice A its.length cap, .slice A2 zs.length cap2] w fun e w' => e = .returned (.bool true) ∧ Below w.heap.size w w' := by
  have T0 := Lib.hid t0; have T1 := Lib.hid t1; have HE := Lib.hid hE; have HI := Lib.hid hI; have HZ := Lib.hid hZ
  unfold maxLen at hl hl2
  clear t0 t1 hE hI hZ
  go_enter Tryd.func11, Tryd.ntmps11
  go_wp2_with fail
  refine (awake12_calls E w HE.out T0.out T1.out).mono ?_
  rintro e W1 ⟨rfl, hb1⟩
  have HB1 := Lib.hid hb1
  clear hb1
  go_wp2_with fail
  obtain ⟨gw, hgw⟩ : ∃ gw, gw = W1.heap.size := ⟨_, rfl⟩
  obtain ⟨gr, hgr⟩ : ∃ gr, gr = W1.heap.size + 1 := ⟨_, rfl⟩
  rw [← hgr, ← hgw]
  generalize hW : (W1.alloc _).alloc _ = W2
  have HT0 := Lib.hid (show Two w W2 gw gr 0 0 false z32 ⟨#[]⟩ by subst hW; subst hgw; subst hgr; exact Two.new HB1.out)
  clear hW hgw hgr
  go_loopw [7, 8, 9] (fun at_ n i wr => ∃ k kn ka : Nat, k ≤ 12 ∧ kn ≤ k ∧ ka ≤ 1000 * k ∧ at_ = .int .i64 ka ∧ n = .int .i64 kn ∧ i = .int .i64 k ∧ ∃ b ks, Two w wr gw gr kn kn b ks ⟨#[]⟩) (fun _ _ i _ => (13 - intOf i).toNat)
  case atStart => exact ⟨0, 0, 0, by omega, by omega, by omega, rfl, rfl, rfl, _, _, HT0.out⟩
  case round =>
    obtain ⟨k, kn, ka, hk, hkn, hka, rfl, rfl, rfl, b, ks, hT⟩ := hrel
    have HT := Lib.hid hT
    clear hT HT0
    by_cases hlt : k < its.length ∧ k < 12
    · obtain ⟨hlt1, hlt2⟩ := hlt
      obtain ⟨it, hit⟩ : ∃ it, its[k]? = some it := ⟨its[k], List.getElem?_eq_getElem hlt1⟩
      obtain ⟨q1, q2, B, o, rfl, q3, q4, q5, q6⟩ := HI.out k it hit
      have HQ := Lib.hid (And.intro q1 q2); have HQ3 := Lib.hid q3
      have HI32 := Lib.hid (show (Tryd.prog.info? 22).map (·.size) = some (it.key.map (Value.int .u8)).length by rw [List.length_map, q1]; kernel_rfl)
      have i1 : (k : Int) < its.length := by omega
      have i2 : (k : Int) < 12 := by omega
      have HQ5 := Lib.hid q5
      have q4' : wr.cell? ⟨B, o + k * 34, none⟩ = some (.bool it.lock) := (HT.out.below.cell (p := ⟨B, o + k * 34, none⟩) q3).trans q4
      have q6' : wr.cell? ⟨B, o + k * 34 + 33, none⟩ = some (.string it.s) := (HT.out.below.cell (p := ⟨B, o + k * 34 + 33, none⟩) q3).trans q6
      clear q1 q2 q3 q4 q5 q6 hit
      cases hlk : it.lock
      · rw [hlk] at q4'
        clear hlk
        go_wp2_with fail
        refine (cut_calls it.s 100 (by decide) _).mono ?_
        rintro e wr' ⟨⟨s, rfl, hcut, hsz⟩, rfl⟩
        clear hcut q4' q6'
        have key : ∃ p : ByteArray, (1 ≤ p.size ∧ p.size ≤ 100) ∧ ((s.size = 0 ∧ p = ⟨#[120]⟩) ∨ (¬ s.size = 0 ∧ p = s)) := by
          by_cases h0 : s.size = 0
          · exact ⟨_, by decide, .inl ⟨h0, rfl⟩⟩
          · exact ⟨s, by omega, .inr ⟨h0, rfl⟩⟩
        obtain ⟨p, HP1, hcase⟩ := key
        have HPZ := Lib.hid HP1
        clear HP1
        rcases hcase with ⟨h0, hp⟩ | ⟨h0, hp⟩
        · obtain rfl := size_zero h0
          have HPE := Lib.hid hp
          clear h0 hp hsz
          go_wp2_with fail
          rw [← HPE.out]
          clear HPE
          obtain ⟨P, hP⟩ : ∃ P, P = strOfNums (packI b ks kn (bI p)) := ⟨_, rfl⟩
          have HPP := Lib.hid hP
          have HPS := Lib.hid (pack_size b ks kn p P hP HPZ.out.2)
          refine (pack_calls gw kn b ks p HT.out.lk HT.out.uk HPZ.out.1 (by have := HPZ.out.2; omega) (by omega) wr HT.out.wr (rangeAt_below T0.out HT.out.below) (rangeAt_below T1.out HT.out.below)).mono ?_
          rw [← hP]
          rintro e W3 ⟨rfl, h3, g3⟩
          have HT3 := Lib.hid (HT.out.wrote h3 g3)
          clear h3 g3 hP
          go_wp2_with fail
          go_loopw [7, 11] (fun at_ pv wi => ∃ (ps qs : ByteArray) (ja : Nat), at_ = .int .i64 ja ∧ ja + ps.size ≤ ka + P.size ∧ pv = .string ps ∧ bI P = bI qs ++ bI ps ∧ Two w wi gw gr (kn + 1) kn b ks qs) (fun _ pv _ => szOf pv)
          case atStart => exact ⟨P, ⟨#[]⟩, ka, rfl, Nat.le_refl _, rfl, rfl, HT3.out⟩
          case round =>
            obtain ⟨ps, qs, ja, rfl, hja, rfl, hq, hTi⟩ := hrel
            have HTI := Lib.hid hTi; have HQQ := Lib.hid hq; have HJA := Lib.hid hja
            have hjb : ja ≤ 13000 := by have := HPS.out; omega
            have hpb : ps.size ≤ 13000 := by have := HPS.out; omega
            have hqs : P.size = qs.size + ps.size := by rw [← bI_length P, hq, List.length_append, bI_length, bI_length]
            have HQS := Lib.hid hqs
            clear hTi hq hja hqs HT3
            by_cases hp0 : 1 ≤ ps.size
            · have hne := str_ne hp0
              have hne3 : ps.toList.isEmpty = false := by simpa using hne
              have hne4 : (!ps.toList.isEmpty) = true := by simpa using hne
              go_wp2_with fail
              refine (next_no gr kn b ks qs E HTI.out.lk HTI.out.uk (by omega) (by have := HQS.out; have := HPS.out; omega) _ (HE.out.below HTI.out.below) HTI.out.rd (rangeAt_below T0.out HTI.out.below) (rangeAt_below T1.out HTI.out.below) _ _ (part_waits b ks kn p P qs ps HPP.out HPZ.out.1 (by have := HPZ.out.2; omega) HQQ.out hp0)).mono ?_
              rintro e W4 ⟨rfl, hb4⟩
              have HT4 := Lib.hid (HTI.out.keep hb4)
              clear hb4
              by_cases hat : ja < zs.length
              · have HZ4 := HZ.out.below HT4.out.below
                obtain ⟨ad, rfl, _, hcell⟩ := HZ4.at_ (k := ja) (by rw [List.length_map]; exact hat)
                rw [List.getElem_map] at hcell
                obtain ⟨mm, hmm, emm⟩ := and_low (zs[ja]'hat) 31 (by decide)
                rw [show ((31 : Nat) : Int) = 31 from rfl] at emm
                generalize (zs[ja]'hat) = z at hcell emm
                obtain ⟨c, hc⟩ : ∃ c, c = min (1 + mm) ps.size := ⟨_, rfl⟩
                have hc1 : 1 ≤ c := by omega
                have hc2 : c ≤ ps.size := by omega
                have hmin : min (1 + (mm : Int)) (ps.size : Int) = (c : Int) := by omega
                have hi : (ja : Int) < zs.length := by omega
                have hcI : (c : Int) ≤ ps.size := by omega
                have hmmI : (mm : Int) ≤ 31 := by omega
                clear hc HZ4
                go_wp2_with fail
                refine (feed_w gr kn b ks qs HT4.out.lk W4 HT4.out.rd (ps.extract 0 c) (by simp; have := HQS.out; have := HPS.out; omega)).mono ?_
                rintro e W5 ⟨rfl, h5, g5⟩
                have HT5 := Lib.hid (HT4.out.did h5 g5)
                have HSZ := Lib.hid (show (ps.extract c ps.size).size = ps.size - c by simp)
                clear h5 g5
                go_wp2_with fail
                go_roundw
                case rel => exact ⟨ps.extract c ps.size, qs ++ ps.extract 0 c, ja + 1, by go_num, by rw [HSZ.out]; have := HJA.out; omega, rfl, parts_move P qs ps c HQQ.out, HT5.out⟩
                case measure =>
                  show szOf (.string (ps.extract c ps.size)) < szOf (.string ps)
                  unfold szOf
                  simp only []
                  rw [HSZ.out]; omega
              · have hi : ¬ (ja : Int) < zs.length := by omega
                go_wp2_with fail
                refine (feed_w gr kn b ks qs HT4.out.lk W4 HT4.out.rd ps (by have := HQS.out; have := HPS.out; omega)).mono ?_
                rintro e W5 ⟨rfl, h5, g5⟩
                have HT5 := Lib.hid (HT4.out.did h5 g5)
                have hex := ext_none ps
                clear h5 g5
                go_wp2_with fail
                clear hex
                go_roundw
                case rel => exact ⟨⟨#[]⟩, qs ++ ps, ja + 1, by go_num, by show ja + 1 + 0 ≤ _; have := HJA.out; omega, rfl, by rw [HQQ.out, bI_cat]; exact (List.append_nil _).symm, HT5.out⟩
                case measure =>
                  show szOf (.string ⟨#[]⟩) < szOf (.string ps)
                  unfold szOf
                  simp only []
                  show 0 < _
                  omega
            · obtain rfl := size_zero (show ps.size = 0 by omega)
              obtain rfl : qs = P := bI_inj' (by rw [HQQ.out]; exact (List.append_nil _).symm)
              go_wp2_with fail
              refine (next_str gr kn b ks qs E HTI.out.lk HTI.out.uk (by omega) (by have := HPS.out; omega) _ (HE.out.below HTI.out.below) HTI.out.rd (rangeAt_below T0.out HTI.out.below) (rangeAt_below T1.out HTI.out.below) p ⟨#[]⟩ (read_packed b ks kn p qs HPP.out HPZ.out.1 (by have := HPZ.out.2; omega)).1).mono ?_
              rintro e W4 ⟨rfl, h4, g4⟩
              have HT4 := Lib.hid (HTI.out.did h4 g4)
              have c34 := (read_cells HT4.out.lk HT4.out.rd).1
              have c0 := (line_cells HT4.out.rd).1
              have hwk : IntKind.u64.wrap ((kn : Int) + 1) = (kn : Int) + 1 := by
                have e : IntKind.u64.wrap ((kn : Int) + 1) = ((kn : Int) + 1) % 18446744073709551616 := by simp [IntKind.wrap, IntKind.bits, IntKind.signed]
                rw [e]; omega
              clear h4 g4
              go_wp2_with fail
              refine (waits_calls gr ⟨#[]⟩ W4 c34).mono ?_
              rintro e w5 ⟨rfl, hw⟩
              obtain rfl := hw.symm
              go_wp2_with fail
              refine (count_calls gr (kn + 1) W4 c0).mono ?_
              rintro e w5 ⟨rfl, hw⟩
              obtain rfl := hw.symm
              rw [show ((kn + 1 : Nat) : Int) = (kn : Int) + 1 from by omega]
              go_wp2_with fail
              go_roundw
              case rel => exact ⟨k + 1, kn + 1, ja, by omega, by omega, by have := HJA.out; have := HPS.out; omega, rfl, by go_num, by go_num, _, _, HT4.out⟩
              case measure => simp [intOf]; omega
        · subst hp
          have hne := str_ne HPZ.out.1
          have hne3 : p.toList.isEmpty = false := by simpa using hne
          have hne4 : (!p.toList.isEmpty) = true := by simpa using hne
          clear h0 hsz
          go_wp2_with fail
          clear hne hne3 hne4
          obtain ⟨P, hP⟩ : ∃ P, P = strOfNums (packI b ks kn (bI p)) := ⟨_, rfl⟩
          have HPP := Lib.hid hP
          have HPS := Lib.hid (pack_size b ks kn p P hP HPZ.out.2)
          refine (pack_calls gw kn b ks p HT.out.lk HT.out.uk HPZ.out.1 (by have := HPZ.out.2; omega) (by omega) wr HT.out.wr (rangeAt_below T0.out HT.out.below) (rangeAt_below T1.out HT.out.below)).mono ?_
          rw [← hP]
          rintro e W3 ⟨rfl, h3, g3⟩
          have HT3 := Lib.hid (HT.out.wrote h3 g3)
          clear h3 g3 hP
          go_wp2_with fail
          go_loopw [7, 11] (fun at_ pv wi => ∃ (ps qs : ByteArray) (ja : Nat), at_ = .int .i64 ja ∧ ja + ps.size ≤ ka + P.size ∧ pv = .string ps ∧ bI P = bI qs ++ bI ps ∧ Two w wi gw gr (kn + 1) kn b ks qs) (fun _ pv _ => szOf pv)
          case atStart => exact ⟨P, ⟨#[]⟩, ka, rfl, Nat.le_refl _, rfl, rfl, HT3.out⟩
          case round =>
            obtain ⟨ps, qs, ja, rfl, hja, rfl, hq, hTi⟩ := hrel
            have HTI := Lib.hid hTi; have HQQ := Lib.hid hq; have HJA := Lib.hid hja
            have hjb : ja ≤ 13000 := by have := HPS.out; omega
            have hpb : ps.size ≤ 13000 := by have := HPS.out; omega
            have hqs : P.size = qs.size + ps.size := by rw [← bI_length P, hq, List.length_append, bI_length, bI_length]
            have HQS := Lib.hid hqs
            clear hTi hq hja hqs HT3
            by_cases hp0 : 1 ≤ ps.size
            · have hne := str_ne hp0
              have hne3 : ps.toList.isEmpty = false := by simpa using hne
              have hne4 : (!ps.toList.isEmpty) = true := by simpa using hne
              go_wp2_with fail
              refine (next_no gr kn b ks qs E HTI.out.lk HTI.out.uk (by omega) (by have := HQS.out; have := HPS.out; omega) _ (HE.out.below HTI.out.below) HTI.out.rd (rangeAt_below T0.out HTI.out.below) (rangeAt_below T1.out HTI.out.below) _ _ (part_waits b ks kn p P qs ps HPP.out HPZ.out.1 (by have := HPZ.out.2; omega) HQQ.out hp0)).mono ?_
              rintro e W4 ⟨rfl, hb4⟩
              have HT4 := Lib.hid (HTI.out.keep hb4)
              clear hb4
              by_cases hat : ja < zs.length
              · have HZ4 := HZ.out.below HT4.out.below
                obtain ⟨ad, rfl, _, hcell⟩ := HZ4.at_ (k := ja) (by rw [List.length_map]; exact hat)
                rw [List.getElem_map] at hcell
                obtain ⟨mm, hmm, emm⟩ := and_low (zs[ja]'hat) 31 (by decide)
                rw [show ((31 : Nat) : Int) = 31 from rfl] at emm
                generalize (zs[ja]'hat) = z at hcell emm
                obtain ⟨c, hc⟩ : ∃ c, c = min (1 + mm) ps.size := ⟨_, rfl⟩
                have hc1 : 1 ≤ c := by omega
                have hc2 : c ≤ ps.size := by omega
                have hmin : min (1 + (mm : Int)) (ps.size : Int) = (c : Int) := by omega
                have hi : (ja : Int) < zs.length := by omega
                have hcI : (c : Int) ≤ ps.size := by omega
                have hmmI : (mm : Int) ≤ 31 := by omega
                clear hc HZ4
                go_wp2_with fail
                refine (feed_w gr kn b ks qs HT4.out.lk W4 HT4.out.rd (ps.extract 0 c) (by simp; have := HQS.out; have := HPS.out; omega)).mono ?_
                rintro e W5 ⟨rfl, h5, g5⟩
                have HT5 := Lib.hid (HT4.out.did h5 g5)
                have HSZ := Lib.hid (show (ps.extract c ps.size).size = ps.size - c by simp)
                clear h5 g5
                go_wp2_with fail
                go_roundw
                case rel => exact ⟨ps.extract c ps.size, qs ++ ps.extract 0 c, ja + 1, by go_num, by rw [HSZ.out]; have := HJA.out; omega, rfl, parts_move P qs ps c HQQ.out, HT5.out⟩
                case measure =>
                  show szOf (.string (ps.extract c ps.size)) < szOf (.string ps)
                  unfold szOf
                  simp only []
                  rw [HSZ.out]; omega
              · have hi : ¬ (ja : Int) < zs.length := by omega
                go_wp2_with fail
                refine (feed_w gr kn b ks qs HT4.out.lk W4 HT4.out.rd ps (by have := HQS.out; have := HPS.out; omega)).mono ?_
                rintro e W5 ⟨rfl, h5, g5⟩
                have HT5 := Lib.hid (HT4.out.did h5 g5)
                have hex := ext_none ps
                clear h5 g5
                go_wp2_with fail
                clear hex
                go_roundw
                case rel => exact ⟨⟨#[]⟩, qs ++ ps, ja + 1, by go_num, by show ja + 1 + 0 ≤ _; have := HJA.out; omega, rfl, by rw [HQQ.out, bI_cat]; exact (List.append_nil _).symm, HT5.out⟩
                case measure =>
                  show szOf (.string ⟨#[]⟩) < szOf (.string ps)
                  unfold szOf
                  simp only []
                  show 0 < _
                  omega
            · obtain rfl := size_zero (show ps.size = 0 by omega)
              obtain rfl : qs = P := bI_inj' (by rw [HQQ.out]; exact (List.append_nil _).symm)
              go_wp2_with fail
              refine (next_str gr kn b ks qs E HTI.out.lk HTI.out.uk (by omega) (by have := HPS.out; omega) _ (HE.out.below HTI.out.below) HTI.out.rd (rangeAt_below T0.out HTI.out.below) (rangeAt_below T1.out HTI.out.below) p ⟨#[]⟩ (read_packed b ks kn p qs HPP.out HPZ.out.1 (by have := HPZ.out.2; omega)).1).mono ?_
              rintro e W4 ⟨rfl, h4, g4⟩
              have HT4 := Lib.hid (HTI.out.did h4 g4)
              have c34 := (read_cells HT4.out.lk HT4.out.rd).1
              have c0 := (line_cells HT4.out.rd).1
              have hwk : IntKind.u64.wrap ((kn : Int) + 1) = (kn : Int) + 1 := by
                have e : IntKind.u64.wrap ((kn : Int) + 1) = ((kn : Int) + 1) % 18446744073709551616 := by simp [IntKind.wrap, IntKind.bits, IntKind.signed]
                rw [e]; omega
              clear h4 g4
              go_wp2_with fail
              refine (waits_calls gr ⟨#[]⟩ W4 c34).mono ?_
              rintro e w5 ⟨rfl, hw⟩
              obtain rfl := hw.symm
              go_wp2_with fail
              refine (count_calls gr (kn + 1) W4 c0).mono ?_
              rintro e w5 ⟨rfl, hw⟩
              obtain rfl := hw.symm
              rw [show ((kn + 1 : Nat) : Int) = (kn : Int) + 1 from by omega]
              go_wp2_with fail
              go_roundw
              case rel => exact ⟨k + 1, kn + 1, ja, by omega, by omega, by have := HJA.out; have := HPS.out; omega, rfl, by go_num, by go_num, _, _, HT4.out⟩
              case measure => simp [intOf]; omega
      · rw [hlk] at q4'
        clear hlk
        have hr1 := rangeAt_below HQ5.out HT.out.below
        go_wp2_with (first
          | (refine wpList_load_mid rfl 22 (.tmp 40) rfl B (o + k * 34 + 1) rfl (it.key.map (Value.int .u8)) _ hr1 Tryd.underlying22 rfl HI32.out ?_)
          | fail)
        clear hr1
        refine (wseal_calls gw kn b ks it.key _ #[] HT.out.lk HQ.out.1 wr HT.out.wr).mono ?_
        rintro e W3 ⟨rfl, h3, g3⟩
        have HS3 := Lib.hid (And.intro h3 (And.intro g3 (HT.out.reader g3)))
        have HB3 := Lib.hid (below_some HT.out.below g3 HT.out.lw)
        clear h3 g3
        have hr3 := rangeAt_below HQ5.out HB3.out
        go_wp2_with (first
          | (refine wpList_load_mid rfl 22 (.tmp 46) rfl B (o + k * 34 + 1) rfl (it.key.map (Value.int .u8)) _ hr3 Tryd.underlying22 rfl HI32.out ?_)
          | fail)
        clear hr3
        refine (ropenR_calls gr kn b ks it.key _ _ HT.out.lk HQ.out.1 W3 HS3.out.2.2).mono ?_
        rintro e W4 ⟨rfl, h4, g4⟩
        have HT4 := Lib.hid (HT.out.lock HS3.out.1 HS3.out.2.1 h4 g4 HQ.out.1 HQ.out.2)
        clear h4 g4
        go_wp2_with fail
        go_roundw
        case rel => exact ⟨k + 1, kn, ka, by omega, by omega, by omega, rfl, rfl, by go_num, _, _, HT4.out⟩
        case measure => simp [intOf]; omega
    · by_cases h12 : k < its.length
      · have i1 : (k : Int) < its.length := by omega
        have i2 : ¬ (k : Int) < 12 := by omega
        go_wp2_with fail
        go_ret
        exact ⟨rfl, HT.out.below⟩
      · have i1 : ¬ (k : Int) < its.length := by omega
        go_wp2_with fail
        go_ret
        exact ⟨rfl, HT.out.below⟩
end Go.Proofs.YtfoljmpphbhobaaDoor
