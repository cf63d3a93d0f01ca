/- The walk of PacketLong: it answers true. -/
import Derived.Test.YtfoljmpphbhobaaDoorPack7
import Derived.OwnWalk
namespace Go.Proofs.YtfoljmpphbhobaaDoor
open Go.RowKit Go.Spk
set_option linter.unusedVariables false
attribute [local go_sem ↓] Go.wp_at_zero Go.wp_at_succ
theorem and_low (x : Int) (k : Nat) (hk : k < 65536) : ∃ m : Nat, m ≤ k ∧ bits .and .i64 x (k : Int) = (m : Int) := by
  refine ⟨(BitVec.ofInt 64 x).toNat &&& k, Nat.and_le_right, ?_⟩
  have h : (BitVec.ofInt 64 x).toNat &&& k ≤ k := Nat.and_le_right
  show IntKind.i64.wrap ((BitVec.ofInt 64 x &&& BitVec.ofInt 64 (k : Int)).toNat : Int) = _
  rw [BitVec.toNat_and, ofInt_u64 k (by omega), IntKind.wrap_i64]
  omega
def key1 : List Int := [1, 0, 0, 0, 0, 0, 0, 0, 0, 0, 0, 0, 0, 0, 0, 0, 0, 0, 0, 0, 0, 0, 0, 0, 0, 0, 0, 0, 0, 0, 0, 0]
theorem key1_len : key1.length = 32 := rfl
theorem key1_u8 : U8s key1 := U8s_of (by decide)
/-- A writer and a reader with one key, in two blocks of the law's own. -/
structure Two (w W : World) (gw gr nw nr : Nat) (b : Bool) (ks : List Int) (s : ByteArray) : Prop where
  below : Below w.heap.size w W
  wr : Whole W gw 60 (lineRow nw b ks ++ #[])
  rd : Whole W gr 62 (lineRow nr b ks ++ #[.string s, .nilIface])
  lw : w.heap.size ≤ gw
  lr : w.heap.size ≤ gr
  ne : gw ≠ gr
  lk : ks.length = 32
  uk : U8s ks
section
variable {w W W' : World} {gw gr nw nr n' : Nat} {b b' : Bool} {ks ks' : List Int} {s s' : ByteArray}
theorem Two.keep (h : Two w W gw gr nw nr b ks s) (hb : Below W.heap.size W W') : Two w W' gw gr nw nr b ks s :=
  ⟨h.below.trans (hb.mono h.below.size), h.wr.below hb h.wr.inside, h.rd.below hb h.rd.inside, h.lw, h.lr, h.ne, h.lk, h.uk⟩
theorem Two.wrote (h : Two w W gw gr nw nr b ks s) (h' : Whole W' gw 60 (lineRow n' b ks ++ #[])) (hg : W.grownBy W' (some gw)) : Two w W' gw gr n' nr b ks s :=
  ⟨below_some h.below hg h.lw, h', h.rd.only hg (ne_some (Ne.symm h.ne)), h.lw, h.lr, h.ne, h.lk, h.uk⟩
theorem Two.did (h : Two w W gw gr nw nr b ks s) (h' : Whole W' gr 62 (lineRow n' b ks ++ #[.string s', .nilIface])) (hg : W.grownBy W' (some gr)) : Two w W' gw gr nw n' b ks s' :=
  ⟨below_some h.below hg h.lr, h.wr.only hg (ne_some h.ne), h', h.lw, h.lr, h.ne, h.lk, h.uk⟩
theorem Two.lock {W1 W2 : World} {nk : List Int} (h : Two w W gw gr nw nr b ks s) (hw : Whole W1 gw 60 (lineRow nw true nk ++ #[])) (g1 : W.grownBy W1 (some gw)) (hr : Whole W2 gr 62 (lineRow nr true nk ++ #[.string s, .nilIface])) (g2 : W1.grownBy W2 (some gr))
    (hn : nk.length = 32) (un : U8s nk) : Two w W2 gw gr nw nr true nk s :=
  ⟨below_some (below_some h.below g1 h.lw) g2 h.lr, hw.only g2 (ne_some h.ne), hr, h.lw, h.lr, h.ne, hn, un⟩
theorem Two.reader {W1 : World} (h : Two w W gw gr nw nr b ks s) (g1 : W.grownBy W1 (some gw)) : Whole W1 gr 62 (lineRow nr b ks ++ #[.string s, .nilIface]) := h.rd.only g1 (ne_some (Ne.symm h.ne))
end
theorem packI_mem (b : Bool) (ks : List Int) (n : Nat) (ws : List Int) (hw : U8s ws) : ∀ z ∈ packI b ks n ws, 0 ≤ z ∧ z ≤ 255 := by
  intro z hz
  unfold packI at hz
  rcases List.mem_append.1 hz with h | h
  · exact beT_mem _ _ _ z h
  · unfold outP at h
    cases b
    · exact bodyP_mem false ws hw z h
    · exact sealI_mem _ _ _ _ z h
theorem read_packed (b : Bool) (ks : List Int) (n : Nat) (p P : ByteArray) (hP : P = strOfNums (packI b ks n (bI p))) (h1 : 1 ≤ p.size) (hl : p.size ≤ 32768) :
    readI b ks n (bI P) = (0, true, bI p, bI ⟨#[]⟩) ∧ P.size = allR b (p.size + 1 + padP b p.size) := by
  have h := read_pack b ks n (bI p) [] (U8s_bI p) (by rw [bI_length]; exact h1) (by rw [bI_length]; exact hl)
  rw [List.append_nil] at h
  constructor
  · rw [hP, bI_str (packI_mem b ks n _ (U8s_bI p))]; exact h
  · rw [hP, str_size, packI_length, bI_length]
theorem allR_le (b : Bool) (k : Nat) (hk : k ≤ 32768) : allR b (k + 1 + padP b k) ≤ 32820 := by
  have := padP_bd b k
  unfold allR tagN
  split <;> omega
theorem nil_cat (P : ByteArray) : (⟨#[]⟩ : ByteArray) ++ P = P := by
  apply bI_ext
  rw [bI_cat]
  rfl
theorem reader_new : (#[.int .u64 0, .bool false, .int .u8 0, .int .u8 0, .int .u8 0, .int .u8 0, .int .u8 0, .int .u8 0, .int .u8 0, .int .u8 0, .int .u8 0, .int .u8 0, .int .u8 0, .int .u8 0, .int .u8 0, .int .u8 0, .int .u8 0, .int .u8 0, .int .u8 0, .int .u8 0, .int .u8 0, .int .u8 0, .int .u8 0, .int .u8 0, .int .u8 0, .int .u8 0, .int .u8 0, .int .u8 0, .int .u8 0, .int .u8 0, .int .u8 0, .int .u8 0, .int .u8 0, .int .u8 0, .string ⟨#[]⟩, .nilIface] : Array Value) = lineRow 0 false z32 ++ #[.string ⟨#[]⟩, .nilIface] := rfl
theorem Two.new {w W : World} (hb : Below w.heap.size w W) : Two w ((W.alloc (.cells (lineRow 0 false z32 ++ #[]) 60)).alloc (.cells (lineRow 0 false z32 ++ #[.string ⟨#[]⟩, .nilIface]) 62)) W.heap.size (W.heap.size + 1) 0 0 false z32 ⟨#[]⟩ :=
  ⟨(hb.alloc hb.size _).alloc (Nat.le_trans hb.size (by simp)) _, (Whole.new rfl rfl).alloc _, Whole.new (by simp) rfl, hb.size, Nat.le_trans hb.size (Nat.le_succ _), Nat.ne_of_lt (Nat.lt_succ_self _), z32_len, z32_u8⟩
theorem Two.grown {w W W' : World} {gw gr nw nr : Nat} {b : Bool} {ks : List Int} {s : ByteArray} (h : Two w W gw gr nw nr b ks s) (hg : W.grownBy W' none) : Two w W' gw gr nw nr b ks s :=
  ⟨h.below.grown hg h.below.size (fun k hk => by cases hk), h.wr.only hg (by simp), h.rd.only hg (by simp), h.lw, h.lr, h.ne, h.lk, h.uk⟩
theorem long_made {w W1 W2 : World} {N : Nat} (hb : Below w.heap.size w W1)
    (hown : W2.ownsRow w.heap.size 5 1 (.slice (some ⟨((W1.alloc (.cells (lineRow 0 false z32 ++ #[]) 60)).alloc (.cells (lineRow 0 false z32 ++ #[.string ⟨#[]⟩, .nilIface]) 62)).heap.size, 0, none⟩) N N) N (madeCells (Value.int .u8 0).cells (N * 1)).toList)
    (hg : ((W1.alloc (.cells (lineRow 0 false z32 ++ #[]) 60)).alloc (.cells (lineRow 0 false z32 ++ #[.string ⟨#[]⟩, .nilIface]) 62)).grownBy W2 none) :
    Two w W2 W1.heap.size (W1.heap.size + 1) 0 0 false z32 ⟨#[]⟩ ∧ Own W2 w.heap.size 5 .u8 (W1.heap.size + 1 + 1) N N (List.replicate N 0) := by
  refine ⟨(Two.new hb).grown hg, ?_⟩
  rw [show (Value.int .u8 0).cells = #[Value.int .u8 0] from rfl, toList_madeCells_one, Nat.mul_one, ← List.map_replicate] at hown
  have e : ((W1.alloc (.cells (lineRow 0 false z32 ++ #[]) 60)).alloc (.cells (lineRow 0 false z32 ++ #[.string ⟨#[]⟩, .nilIface]) 62)).heap.size = W1.heap.size + 1 + 1 := by simp
  rw [e] at hown
  exact hown
theorem long_made2 {w W W2 : World} {gw gr nw nr N H : Nat} {b : Bool} {ks : List Int} {s : ByteArray} (hT : Two w W gw gr nw nr b ks s) (hH : W.heap.size = H)
    (hown : W2.ownsRow w.heap.size 5 1 (.slice (some ⟨W.heap.size, 0, none⟩) N N) N (madeCells (Value.int .u8 0).cells (N * 1)).toList)
    (hg : W.grownBy W2 none) :
    Two w W2 gw gr nw nr b ks s ∧ Own W2 w.heap.size 5 .u8 W.heap.size N N (List.replicate N 0) := by
  refine ⟨hT.grown hg, ?_⟩
  rw [show (Value.int .u8 0).cells = #[Value.int .u8 0] from rfl, toList_madeCells_one, Nat.mul_one, ← List.map_replicate] at hown
  exact hown
theorem long_conv {w W2 : World} {g N : Nat} (h : Own W2 w.heap.size 5 .u8 g N N (List.replicate N 0)) :
    (convert 28 9 (.slice (some ⟨g, 0, none⟩) N N)).run Tryd.prog W2 = .ok (.string (strOfNums (List.replicate N 0))) W2 :=
  run_convert_bytes_arg (P := Tryd.prog) W2 28 5 Tryd.underlying28 Tryd.underlying5 g 0 N N (List.replicate N 0) (by simp) (fun q hq => by
    rw [Nat.zero_add, h.cell q hq]; rfl) 9 Tryd.underlying9
set_option maxRecDepth 100000 in
set_option maxHeartbeats 4000000 in
theorem long_calls (n0 : Int) (sealed : Bool) (E : Nat → Addr) (w : World) (hE : Errs w E)
   (t0 : w.rangeAt 0 0 (beginI.map (Value.int .u32))) (t1 : w.rangeAt 1 0 orderC) :
    Calls Tryd.prog 12 #[.int .i64 n0, .bool sealed] w fun e w' => e = .returned (.bool true) ∧ Below w.heap.size w w' := by
  have T0 := Lib.hid t0; have T1 := Lib.hid t1; have HE := Lib.hid hE
  obtain ⟨m, hm, em⟩ := and_low n0 15 (by decide)
  rw [show ((15 : Nat) : Int) = 15 from rfl] at em
  obtain ⟨N, hN⟩ : ∃ N, N = 32760 + m := ⟨_, rfl⟩
  have hN2 : (32760 : Int) + (m : Int) = (N : Int) := by omega
  have HN := Lib.hid hN
  obtain ⟨i, f1, f2, f3, f4⟩ := info_of (P := Tryd.prog) (e := 5) (k := .u8) (bytes := 1) (by kernel_rfl)
  obtain ⟨Z, hZ⟩ : ∃ Z, Z = strOfNums (List.replicate N 0) := ⟨_, rfl⟩
  have hZb : bI Z = List.replicate N 0 := by rw [hZ, bI_str (fun z hz => by rw [(List.mem_replicate.1 hz).2]; decide)]
  have hZs : Z.size = N := by rw [← bI_length, hZb, List.length_replicate]
  have HZ := Lib.hid hZ; have HZB := Lib.hid hZb; have HZS := Lib.hid hZs
  have HI := Lib.hid (And.intro f1 (And.intro f2 (And.intro f3 f4)))
  clear t0 t1 hE hN hZ hZb hZs f1 f2 f3 f4
  cases sealed
  · go_enter Tryd.func12, Tryd.ntmps12
    go_wp2_with fail
    refine (awake12_calls E w HE.out.four T0.out T1.out).mono ?_
    rintro e W1 ⟨rfl, hb1⟩
    have HB1 := Lib.hid hb1
    clear hb1
    go_wp2_with (first
      | (at_make
         refine wpList_make_full _ rfl _ _ 28 rfl w.heap.size 5 i (.int .u8 0) 1 Tryd.underlying28 HI.out.1 HI.out.2.1 HI.out.2.2.1 .i64 .i64 _ _ N rfl rfl rfl rfl (by rw [HI.out.2.2.2, HN.out]; omega) (by rw [HN.out]; unfold maxLen; omega) (by have := HB1.out.size; simp; omega) ?_
         intro W2 hown hg2
         have hF := long_made HB1.out hown hg2
         have HF := Lib.hid hF
         have hcv := long_conv HF.out.2)
      | fail)
    clear hcv hown hg2
    rw [← HZ.out]
    have HT := Lib.hid HF.out.1
    by_cases hbig : 32768 < N
    · refine (pack_big W1.heap.size (errI (E 3)) Z (by rw [HZS.out]; exact hbig) (by rw [HZS.out, HN.out]; omega) W2 ((HE.out.below HT.out.below).var 3 (by decide))).mono ?_
      rintro e W3 ⟨rfl, hb3⟩
      have HT3 := Lib.hid (HT.out.keep hb3)
      have c0 := (line_cells HT3.out.wr).1
      have i1 : (32768 : Int) < N := by omega
      clear hb3
      unfold errI
      go_wp2_with fail
      refine (code_bare E 3 (by decide) W3 (HE.out.below HT3.out.below)).mono ?_
      rw [show ((3 : Nat) : Int) + 1 = 4 from rfl]
      rintro e w4 ⟨rfl, rfl⟩
      go_wp2_with fail
      refine (count_calls _ 0 _ c0).mono ?_
      rintro e w5 ⟨rfl, hw⟩
      obtain rfl := hw.symm
      go_wp2_with fail
      go_ret
      exact ⟨rfl, HT3.out.below⟩
    · have HL := Lib.hid (show Z.size ≤ 32768 by rw [HZS.out]; omega)
      have H1 := Lib.hid (show 1 ≤ Z.size by rw [HZS.out, HN.out]; omega)
      obtain ⟨P, hP⟩ : ∃ P, P = strOfNums (packI false z32 0 (bI Z)) := ⟨_, rfl⟩
      have HRP := Lib.hid (read_packed false z32 0 Z P hP H1.out HL.out)
      have HPS := Lib.hid (show P.size ≤ 32820 by rw [HRP.out.2]; exact allR_le _ _ HL.out)
      refine (pack_calls W1.heap.size 0 false z32 Z HT.out.lk HT.out.uk H1.out HL.out (by decide) W2 HT.out.wr (rangeAt_below T0.out HT.out.below) (rangeAt_below T1.out HT.out.below)).mono ?_
      rw [← hP]
      rintro e W3 ⟨rfl, h3, g3⟩
      have HT3 := Lib.hid (HT.out.wrote h3 g3)
      have i1 : ¬ (32768 : Int) < N := by omega
      clear h3 g3 hP
      go_wp2_with fail
      refine (feed_w (W1.heap.size + 1) 0 false z32 ⟨#[]⟩ HT3.out.lk W3 HT3.out.rd P (by have := HPS.out; show 0 + P.size ≤ _; omega)).mono ?_
      rw [nil_cat]
      rintro e W4 ⟨rfl, h4, g4⟩
      have HT4 := Lib.hid (HT3.out.did h4 g4)
      clear h4 g4
      go_wp2_with fail
      refine (next_str (W1.heap.size + 1) 0 false z32 P E HT4.out.lk HT4.out.uk (by decide) (by have := HPS.out; omega) W4 (HE.out.below HT4.out.below).four HT4.out.rd (rangeAt_below T0.out HT4.out.below) (rangeAt_below T1.out HT4.out.below) Z ⟨#[]⟩ HRP.out.1).mono ?_
      rintro e W5 ⟨rfl, h5, g5⟩
      have HT5 := Lib.hid (HT4.out.did h5 g5)
      clear h5 g5
      go_wp2_with fail
      go_ret
      exact ⟨rfl, HT5.out.below⟩
  · go_enter Tryd.func12, Tryd.ntmps12
    go_wp2_with fail
    refine (awake12_calls E w HE.out.four T0.out T1.out).mono ?_
    rintro e W1 ⟨rfl, hb1⟩
    have HB1 := Lib.hid hb1
    clear hb1
    go_wp2_with fail
    obtain ⟨gw, hgw⟩ : ∃ gw, gw = W1.heap.size := ⟨_, rfl⟩
    obtain ⟨gr, hgr⟩ : ∃ gr, gr = W1.heap.size + 1 := ⟨_, rfl⟩
    rw [← hgr, ← hgw]
    generalize hW : (W1.alloc _).alloc _ = W2
    have HT0 := Lib.hid (show Two w W2 gw gr 0 0 false z32 ⟨#[]⟩ by subst hW; subst hgw; subst hgr; exact Two.new HB1.out)
    clear hW hgw hgr
    refine (wseal_calls gw 0 false z32 key1 _ #[] z32_len key1_len W2 HT0.out.wr).mono ?_
    rintro e W3 ⟨rfl, h3, g3⟩
    have HS3 := Lib.hid (And.intro h3 (And.intro g3 (HT0.out.reader g3)))
    clear h3 g3
    go_wp2_with fail
    refine (ropenR_calls gr 0 false z32 key1 _ _ z32_len key1_len W3 HS3.out.2.2).mono ?_
    rintro e W4 ⟨rfl, h4, g4⟩
    have HT4 := Lib.hid (HT0.out.lock HS3.out.1 HS3.out.2.1 h4 g4 key1_len key1_u8)
    clear h4 g4
    go_wp2_with (first
      | (at_make
         refine wpList_make_full _ rfl _ _ 28 rfl w.heap.size 5 i (.int .u8 0) 1 Tryd.underlying28 HI.out.1 HI.out.2.1 HI.out.2.2.1 .i64 .i64 _ _ N rfl rfl rfl rfl (by rw [HI.out.2.2.2, HN.out]; omega) (by rw [HN.out]; unfold maxLen; omega) HT4.out.below.size ?_
         intro W2 hown hg2
         have hF := long_made2 HT4.out rfl hown hg2
         have HF := Lib.hid hF
         have hcv := long_conv HF.out.2)
      | fail)
    clear hcv hown hg2
    rw [← HZ.out]
    have HT := Lib.hid HF.out.1
    by_cases hbig : 32768 < N
    · refine (pack_big gw (errI (E 3)) Z (by rw [HZS.out]; exact hbig) (by rw [HZS.out, HN.out]; omega) W2 ((HE.out.below HT.out.below).var 3 (by decide))).mono ?_
      rintro e W3 ⟨rfl, hb3⟩
      have HT3 := Lib.hid (HT.out.keep hb3)
      have c0 := (line_cells HT3.out.wr).1
      have i1 : (32768 : Int) < N := by omega
      clear hb3
      unfold errI
      go_wp2_with fail
      refine (code_bare E 3 (by decide) W3 (HE.out.below HT3.out.below)).mono ?_
      rw [show ((3 : Nat) : Int) + 1 = 4 from rfl]
      rintro e w4 ⟨rfl, rfl⟩
      go_wp2_with fail
      refine (count_calls _ 0 _ c0).mono ?_
      rintro e w5 ⟨rfl, hw⟩
      obtain rfl := hw.symm
      go_wp2_with fail
      go_ret
      exact ⟨rfl, HT3.out.below⟩
    · have HL := Lib.hid (show Z.size ≤ 32768 by rw [HZS.out]; omega)
      have H1 := Lib.hid (show 1 ≤ Z.size by rw [HZS.out, HN.out]; omega)
      obtain ⟨P, hP⟩ : ∃ P, P = strOfNums (packI true key1 0 (bI Z)) := ⟨_, rfl⟩
      have HRP := Lib.hid (read_packed true key1 0 Z P hP H1.out HL.out)
      have HPS := Lib.hid (show P.size ≤ 32820 by rw [HRP.out.2]; exact allR_le _ _ HL.out)
      refine (pack_calls gw 0 true key1 Z HT.out.lk HT.out.uk H1.out HL.out (by decide) W2 HT.out.wr (rangeAt_below T0.out HT.out.below) (rangeAt_below T1.out HT.out.below)).mono ?_
      rw [← hP]
      rintro e W3 ⟨rfl, h3, g3⟩
      have HT3 := Lib.hid (HT.out.wrote h3 g3)
      have i1 : ¬ (32768 : Int) < N := by omega
      clear h3 g3 hP
      go_wp2_with fail
      refine (feed_w gr 0 true key1 ⟨#[]⟩ HT3.out.lk W3 HT3.out.rd P (by have := HPS.out; show 0 + P.size ≤ _; omega)).mono ?_
      rw [nil_cat]
      rintro e W4 ⟨rfl, h4, g4⟩
      have HT4 := Lib.hid (HT3.out.did h4 g4)
      clear h4 g4
      go_wp2_with fail
      refine (next_str gr 0 true key1 P E HT4.out.lk HT4.out.uk (by decide) (by have := HPS.out; omega) W4 (HE.out.below HT4.out.below).four HT4.out.rd (rangeAt_below T0.out HT4.out.below) (rangeAt_below T1.out HT4.out.below) Z ⟨#[]⟩ HRP.out.1).mono ?_
      rintro e W5 ⟨rfl, h5, g5⟩
      have HT5 := Lib.hid (HT4.out.did h5 g5)
      clear h5 g5
      go_wp2_with fail
      go_ret
      exact ⟨rfl, HT5.out.below⟩
end Go.Proofs.YtfoljmpphbhobaaDoor
