/- packet's Next by what the bytes read as; Feed; the fixed fact of the laws of packet. -/
import Derived.Test.YtfoljmpphbhobaaGreatDoorPack6
namespace Go.Proofs.YtfoljmpphbhobaaGreatDoor
open Go.RowKit Go.Spk
set_option linter.unusedVariables false
attribute [local go_sem ↓] Go.wp_at_zero Go.wp_at_succ
section
variable (g n : Nat) (b : Bool) (ks : List Int) (s : ByteArray) (E : Nat → Addr) (hk : ks.length = 32) (bk : U8s ks) (hn : n ≤ 1000000000) (hs : s.size ≤ 1000000) (w : World) (hE : Er4 w E) (h : Whole w g 44 (lineRow n b ks ++ #[.string s, .nilIface]))
   (t0 : w.rangeAt 21 0 (beginI.map (Value.int .u32))) (t1 : w.rangeAt 22 0 orderC)
include hk bk hn hs hE h t0 t1
theorem next_yes (out rest : List Int) (hr : readI b ks n (bI s) = (0, true, out, rest)) :
    Calls Tryz.prog 16 #[.pointer (some ⟨g, 0, none⟩)] w (NextGot w g n b ks out (strOfNums rest)) := by
  unfold readI at hr
  rw [bI_length] at hr
  split at hr
  · simp at hr
  · rename_i h4
    split at hr
    · simp at hr
    · rename_i hb
      split at hr
      · simp at hr
      · rename_i hf
        split at hr
        · simp at hr
        · rename_i hw
          split at hr
          · simp at hr
          · rename_i hc
            split at hr
            · simp at hr
            · rename_i hp
              simp only [Prod.mk.injEq, true_and] at hr
              obtain ⟨rfl, rfl⟩ := hr
              have hp2 : padB (bodyR b ks n (lenR (bI s)) (bI s)) = false := by simpa using hp
              unfold padB at hp2
              rw [Bool.or_eq_false_iff, decide_eq_false_iff_not, decide_eq_false_iff_not] at hp2
              have e := next_got g n b ks s E hk bk hn (by omega) hs (by omega) (by simpa using hf) hw (by simpa using hc) hp2 w hE h t0 t1
              have e2 : strOfNums ((bI s).drop (allR b (lenR (bI s)))) = s.extract (allR b (lenR (bI s))) s.size := by rw [← bI_cut, str_bI]
              rw [e2]
              exact e
theorem next_str (out rest : ByteArray) (hr : readI b ks n (bI s) = (0, true, bI out, bI rest)) :
    Calls Tryz.prog 16 #[.pointer (some ⟨g, 0, none⟩)] w fun e w' => e = .returned (.tuple #[.string out, .bool true, .nilIface]) ∧ Whole w' g 44 (lineRow (n + 1) b ks ++ #[.string rest, .nilIface]) ∧ w.grownBy w' (some g) := by
  refine (next_yes g n b ks s E hk bk hn hs w hE h t0 t1 (bI out) (bI rest) hr).mono ?_
  rintro e w' ⟨he, h1, h2⟩
  rw [str_bI] at he h1
  exact ⟨he, h1, h2⟩
theorem next_no (out rest : List Int) (hr : readI b ks n (bI s) = (0, false, out, rest)) :
    Calls Tryz.prog 16 #[.pointer (some ⟨g, 0, none⟩)] w fun e w' => e = .returned (.tuple #[.string ⟨#[]⟩, .bool false, .nilIface]) ∧ Below w.heap.size w w' := by
  unfold readI at hr
  rw [bI_length] at hr
  split at hr
  · rename_i h4
    exact next_short g n b ks s hk h4 w h
  · rename_i h4
    split at hr
    · simp at hr
    · rename_i hb
      split at hr
      · simp at hr
      · rename_i hf
        split at hr
        · rename_i hw
          exact next_wait g n b ks s E hk bk hn (by omega) hs (by omega) (by simpa using hf) hw w hE h t0 t1
        · rename_i hw
          split at hr
          · rename_i hc
            simp only [Prod.mk.injEq] at hr
            exact absurd hr.1 hc
          · split at hr <;> simp at hr
theorem next_err (c : Nat) (hr : readI b ks n (bI s) = ((c : Int) + 1, false, [], [])) :
    Calls Tryz.prog 16 #[.pointer (some ⟨g, 0, none⟩)] w (NextBad w g n b ks (errI (E c))) := by
  unfold readI at hr
  rw [bI_length] at hr
  split at hr
  · rename_i h4
    simp only [Prod.mk.injEq] at hr
    omega
  · rename_i h4
    split at hr
    · rename_i hb
      simp only [Prod.mk.injEq, and_true] at hr
      obtain rfl : c = 3 := by omega
      exact next_big g n b ks s E hk bk hn (by omega) hs hb w hE h t0 t1
    · rename_i hb
      split at hr
      · rename_i hf
        simp only [Prod.mk.injEq, and_true] at hr
        obtain rfl : c = 2 := by omega
        unfold formB at hf
        by_cases h1 : lenR (bI s) + aheadN b < aheadN b * 2 + 8
        · exact next_form1 g n b ks s E hk bk hn (by omega) hs (by omega) h1 w hE h t0 t1
        · exact next_form2 g n b ks s E hk bk hn (by omega) hs (by omega) h1 (by simpa [h1] using hf) w hE h t0 t1
      · rename_i hf
        split at hr
        · rename_i hw
          simp only [Prod.mk.injEq] at hr
          omega
        · rename_i hw
          split at hr
          · rename_i hc
            simp only [Prod.mk.injEq, and_true] at hr
            have hV : errV (bodyC b ks n (lenR (bI s)) (bI s)) (errI (E 1)) (errI (E 4)) = errI (E c) := by
              rcases bodyC_or b ks n (lenR (bI s)) (bI s) with h0 | h2 | h5
              · exact absurd h0 hc
              · rw [h2] at hr ⊢
                obtain rfl : c = 1 := by omega
                rfl
              · rw [h5] at hr ⊢
                obtain rfl : c = 4 := by omega
                rfl
            exact next_mac g n b ks s E hk bk hn (by omega) hs (by omega) (by simpa using hf) hw c hV w hE h t0 t1
          · rename_i hc
            split at hr
            · rename_i hp
              simp only [Prod.mk.injEq, and_true] at hr
              obtain rfl : c = 2 := by omega
              unfold padB at hp
              by_cases h1 : ix (bodyR b ks n (lenR (bI s)) (bI s)) 0 < 4
              · exact next_pad1 g n b ks s E hk bk hn (by omega) hs (by omega) (by simpa using hf) hw (by simpa using hc) h1 w hE h t0 t1
              · exact next_pad2 g n b ks s E hk bk hn (by omega) hs (by omega) (by simpa using hf) hw (by simpa using hc) ⟨h1, by simpa [h1] using hp⟩ w hE h t0 t1
            · simp at hr
omit bk hn hs hE t0 t1
theorem feed_w (x : ByteArray) (hx : s.size + x.size ≤ 1000000000) :
    Calls Tryz.prog 15 #[.pointer (some ⟨g, 0, none⟩), .string x] w fun e w' => e = .returned (.tuple #[]) ∧ Whole w' g 44 (lineRow n b ks ++ #[.string (s ++ x), .nilIface]) ∧ w.grownBy w' (some g) := by
  obtain ⟨c34, c35⟩ := read_cells hk h
  refine (feed_calls g s x w c34 c35 (h.free 34) hx).mono ?_
  rintro e w' ⟨rfl, rfl⟩
  exact ⟨rfl, read_set hk h _, only_stored _ rfl _⟩
end
theorem feed_old (g n : Nat) (b : Bool) (ks : List Int) (s x : ByteArray) (t : TypeId) (v : Value) (hk : ks.length = 32) (w : World) (h : Whole w g 44 (lineRow n b ks ++ #[.string s, .iface t v])) :
    Calls Tryz.prog 15 #[.pointer (some ⟨g, 0, none⟩), .string x] w fun e w' => e = .returned (.tuple #[]) ∧ w' = w := by
  obtain ⟨c34, c35⟩ := read_cells hk h
  go_enter Tryz.func15, Tryz.ntmps15
  go_wp2
  go_end0
  exact ⟨rfl, rfl⟩
theorem below_some {w a c : World} {g : Nat} (h : Below w.heap.size w a) (k : a.grownBy c (some g)) (hg : w.heap.size ≤ g) : Below w.heap.size w c :=
  h.grown k h.size (fun i hi => by injection hi with hi; omega)
def z32 : List Int := List.replicate 32 0
theorem z32_len : z32.length = 32 := rfl
theorem z32_u8 : U8s z32 := U8s_of (by decide)
theorem writer_new : (#[.int .u64 0, .bool false, .int .u8 0, .int .u8 0, .int .u8 0, .int .u8 0, .int .u8 0, .int .u8 0, .int .u8 0, .int .u8 0, .int .u8 0, .int .u8 0, .int .u8 0, .int .u8 0, .int .u8 0, .int .u8 0, .int .u8 0, .int .u8 0, .int .u8 0, .int .u8 0, .int .u8 0, .int .u8 0, .int .u8 0, .int .u8 0, .int .u8 0, .int .u8 0, .int .u8 0, .int .u8 0, .int .u8 0, .int .u8 0, .int .u8 0, .int .u8 0, .int .u8 0, .int .u8 0] : Array Value) = lineRow 0 false z32 ++ #[] := rfl
def onePay : ByteArray := ⟨#[97]⟩
def onePack : ByteArray := ⟨#[0, 0, 0, 12, 10, 97, 0, 0, 0, 0, 0, 0, 0, 0, 0, 0]⟩
theorem awake12_val : strOfNums (packI false z32 0 (bI onePay)) = onePack := by decide +kernel
theorem awake12_read : readI false z32 0 (bI onePack) = (0, true, bI onePay, []) := by
  have h := read_pack false z32 0 (bI onePay) [] (U8s_bI _) (by decide) (by decide)
  rw [List.append_nil] at h
  rw [← awake12_val, bI_str (by decide +kernel)]
  exact h
set_option maxRecDepth 100000 in
set_option maxHeartbeats 4000000 in
theorem awake12_calls (E : Nat → Addr) (w : World) (hE : Er4 w E)
   (t0 : w.rangeAt 21 0 (beginI.map (Value.int .u32))) (t1 : w.rangeAt 22 0 orderC) :
    Calls Tryz.prog 7 #[] w fun e w' => e = .returned (.bool true) ∧ Below w.heap.size w w' := by
  have T0 := Lib.hid t0; have T1 := Lib.hid t1; have HE := Lib.hid hE
  clear t0 t1 hE
  go_enter Tryz.func7, Tryz.ntmps7
  go_wp2_with fail
  generalize hW : w.alloc _ = W0
  have hF0 : Below w.heap.size w W0 ∧ Whole W0 w.heap.size 29 (lineRow 0 false z32 ++ #[]) := by
    subst hW; exact ⟨by go_grown, Whole.new rfl writer_new⟩
  have HF0 := Lib.hid hF0
  clear hW hF0
  refine (pack_calls w.heap.size 0 false z32 onePay z32_len z32_u8 (by decide) (by decide) (by decide) W0 HF0.out.2 (rangeAt_below T0.out HF0.out.1) (rangeAt_below T1.out HF0.out.1)).mono ?_
  rw [awake12_val]
  rintro e W1 ⟨rfl, h1, g1⟩
  have HF1 := Lib.hid (And.intro (below_some HF0.out.1 g1 (Nat.le_refl _)) h1)
  clear h1 g1
  go_wp2_with fail
  obtain ⟨gr, hgr⟩ : ∃ gr, gr = W1.heap.size := ⟨_, rfl⟩
  rw [← hgr]
  generalize hW : W1.alloc _ = W2
  have hF2 : Below w.heap.size w W2 ∧ Whole W2 w.heap.size 29 (lineRow 1 false z32 ++ #[]) ∧ Whole W2 gr 44 (lineRow 0 false z32 ++ #[.string ⟨#[]⟩, .nilIface]) ∧ w.heap.size < gr := by
    subst hW; exact ⟨HF1.out.1.alloc HF1.out.1.size _, HF1.out.2.alloc _, Whole.new hgr.symm rfl, hgr ▸ HF1.out.2.inside⟩
  have HF2 := Lib.hid hF2
  clear hW hF2 hgr
  refine (feed_w gr 0 false z32 ⟨#[]⟩ z32_len W2 HF2.out.2.2.1 onePack (by decide)).mono ?_
  rw [show (⟨#[]⟩ : ByteArray) ++ onePack = onePack by decide +kernel]
  rintro e W3 ⟨rfl, h3, g3⟩
  have HF3 := Lib.hid (show Below w.heap.size w W3 ∧ Whole W3 w.heap.size 29 (lineRow 1 false z32 ++ #[]) ∧ Whole W3 gr 44 (lineRow 0 false z32 ++ #[.string onePack, .nilIface]) from
    ⟨below_some HF2.out.1 g3 (Nat.le_of_lt HF2.out.2.2.2), HF2.out.2.1.only g3 (ne_some (Nat.ne_of_lt HF2.out.2.2.2)), h3⟩)
  clear h3 g3
  go_wp2_with fail
  refine (next_str gr 0 false z32 onePack E z32_len z32_u8 (by decide) (by decide) W3 (HE.out.below HF3.out.1) HF3.out.2.2 (rangeAt_below T0.out HF3.out.1) (rangeAt_below T1.out HF3.out.1) onePay ⟨#[]⟩ awake12_read).mono ?_
  rintro e W4 ⟨rfl, h4, g4⟩
  have HF4 := Lib.hid (show Below w.heap.size w W4 ∧ Whole W4 w.heap.size 29 (lineRow 1 false z32 ++ #[]) ∧ Whole W4 gr 44 (lineRow 1 false z32 ++ #[.string ⟨#[]⟩, .nilIface]) from
    ⟨below_some HF3.out.1 g4 (Nat.le_of_lt HF2.out.2.2.2), HF3.out.2.1.only g4 (ne_some (Nat.ne_of_lt HF2.out.2.2.2)), h4⟩)
  clear h4 g4
  have c0 := (line_cells HF4.out.2.1).1
  have c2 := (line_cells HF4.out.2.2).1
  unfold onePack onePay
  go_wp2_with fail
  refine (count_calls _ 1 W4 c0).mono ?_
  rintro e w5 ⟨rfl, hw⟩
  obtain rfl := hw.symm
  go_wp2_with fail
  refine (count_calls _ 1 W4 c2).mono ?_
  rintro e w5 ⟨rfl, hw⟩
  obtain rfl := hw.symm
  go_wp2_with fail
  go_ret
  exact ⟨rfl, HF4.out.1⟩
end Go.Proofs.YtfoljmpphbhobaaGreatDoor
