/- The walk of PolyOpens: it answers true. -/
import Derived.Test.YtfoljmpphbhobaaDoorA8
import Derived.Test.YtfoljmpphbhobaaDoorCode
import Derived.Deep.RegionWith
namespace Go.Proofs.YtfoljmpphbhobaaDoor
open Go.RowKit Go.Spk
set_option linter.unusedVariables false
theorem openC_cases (ks ns ws es : List Int) : openC ks ns ws es = 0 ∨ openC ks ns ws es = 2 ∨ openC ks ns ws es = 5 := by
  unfold openC
  split
  · exact .inr (.inl rfl)
  · split
    · exact .inl rfl
    · exact .inr (.inr rfl)
theorem openS_mem (ks ns ws es : List Int) : ∀ b ∈ openS ks ns ws es, 0 ≤ b ∧ b ≤ 255 := by
  unfold openS
  split
  · simp
  · split
    · exact xorI_mem _ _ _ _
    · simp
/-- The number of the error that Open answers. -/
theorem code_open (E : Nat → Addr) (c : Int) (hc : c = 0 ∨ c = 2 ∨ c = 5) (w : World) (hE : Errs w E) :
    Calls Tryd.prog 26 #[errV c (errI (E 1)) (errI (E 4))] w fun e w' => e = .returned (.int .i64 c) ∧ w = w' := by
  rcases hc with rfl | rfl | rfl
  · exact code_nil w
  · exact code_bare E 1 (by decide) w hE
  · exact code_bare E 4 (by decide) w hE
theorem errs_end {w : World} {E : Nat → Addr} (h : Errs w E) : w.cell? ⟨2, 0, none⟩ = some (errI (E 1)) := h.var 1 (by decide)
theorem errs_mac {w : World} {E : Nat → Addr} (h : Errs w E) : w.cell? ⟨3, 0, none⟩ = some (errI (E 4)) := h.var 4 (by decide)
set_option maxRecDepth 100000 in
set_option maxHeartbeats 4000000 in
theorem opens_calls (ks : List Int) (s0 x0 : ByteArray) (hk : ks.length = 32) (bk : ∀ b ∈ ks, 0 ≤ b ∧ b ≤ 255) (E : Nat → Addr) (w : World) (hE : Errs w E)
   (t0 : w.rangeAt 0 0 (beginI.map (Value.int .u32))) (t1 : w.rangeAt 1 0 orderC) :
    Calls Tryd.prog 9 #[.agg (rowI .u8 ks), .string s0, .string x0] w fun e w' => e = .returned (.bool true) ∧ Below w.heap.size w w' := by
  have T0 := Lib.hid t0; have T1 := Lib.hid t1; clear t0 t1
  have HE := Lib.hid hE
  clear hE
  have H1 := Lib.hid (show (Tryd.prog.info? 22).map (·.size) = some (rowI .u8 ks).size by rw [rowI_size, hk]; kernel_rfl)
  have HK := Lib.hid hk; have BK := Lib.hid bk
  clear hk bk
  go_enter Tryd.func9, Tryd.ntmps9
  go_wp2_with fail
  generalize hW : w.alloc _ = W0
  have hF0 : Below w.heap.size w W0 ∧ Whole W0 w.heap.size 22 (rowI .u8 ks) := by
    subst hW; exact ⟨by go_grown, Whole.new rfl rfl⟩
  have HB0 := Lib.hid hF0.1; have HK0 := Lib.hid hF0.2
  clear hW hF0
  refine (awake4_calls _ _ W0 (rangeAt_below T0.out HB0.out) (rangeAt_below T1.out HB0.out) (errs_end (HE.out.below HB0.out)) (errs_mac (HE.out.below HB0.out))).mono ?_
  rintro e W1 ⟨rfl, hb1⟩
  have HB1 := Lib.hid (HB0.out.trans (hb1.mono HB0.out.size)); have HK1 := Lib.hid (HK0.out.below hb1 HK0.out.inside)
  clear hb1
  go_wp2_with fail
  refine (cut_calls s0 100 (by decide) _).mono ?_
  rintro e W1' ⟨⟨s, rfl, hcut, hsz⟩, rfl⟩
  have HSZ := Lib.hid hsz
  clear hcut hsz
  go_wp2_with fail
  refine (cut_calls x0 40 (by decide) _).mono ?_
  rintro e W1' ⟨⟨x, rfl, hcut, hxz⟩, rfl⟩
  have HXZ := Lib.hid hxz
  clear hcut hxz
  have hk1 := HK1.out
  go_wp2_with (first
    | (refine wpList_load_row rfl 22 (.tmp 3) rfl _ rfl 22 (rowI .u8 ks) (0, 0) _ hk1 Tryd.underlying22 rfl H1.out ?_)
    | fail)
  clear hk1
  refine (popen_calls ks zz12 s x HK.out rfl (U8s_of_mem BK.out) zz12_u8 (by have := HSZ.out; omega) (by have := HXZ.out; omega) _ _ W1 (rangeAt_below T0.out HB1.out) (rangeAt_below T1.out HB1.out) (errs_end (HE.out.below HB1.out)) (errs_mac (HE.out.below HB1.out))).mono ?_
  rintro e W2 ⟨rfl, hb2⟩
  have HB2 := Lib.hid (HB1.out.trans (hb2.mono HB1.out.size)); have HK2 := Lib.hid (HK1.out.below hb2 HK1.out.inside)
  clear hb2
  obtain ⟨S, hS⟩ : ∃ S, S = strOfNums (openS ks zz12 (bI s) (bI x)) := ⟨_, rfl⟩
  obtain ⟨c, hc⟩ : ∃ c, c = openC ks zz12 (bI s) (bI x) := ⟨_, rfl⟩
  rw [← hS, ← hc]
  have hcc : c = 0 ∨ c = 2 ∨ c = 5 := by rw [hc]; exact openC_cases _ _ _ _
  have HS := Lib.hid hS; have HC := Lib.hid hc; have HCC := Lib.hid hcc
  clear hS hc hcc
  go_wp2_with fail
  obtain ⟨v, hv⟩ : ∃ v, v = errV c (errI (E 1)) (errI (E 4)) := ⟨_, rfl⟩
  rw [← hv]
  have HV := Lib.hid hv
  clear hv
  obtain ⟨i, f1, f2, f3, f4⟩ := info_of (P := Tryd.prog) (e := 5) (k := .u8) (bytes := 1) (by kernel_rfl)
  obtain ⟨w3, hmk, hO, hg⟩ := run_make_full (P := Tryd.prog) W2.drew W2.drew.heap.size 28 5 i (.int .u8 0) 1 Tryd.underlying28 f1 f2 f3 .i64 .i64 12 (by rw [f4]; decide) (by decide) (Nat.le_refl _)
  have hmk' : (Instr.makeSlice 28 (.int .i64 12) (.int .i64 12)).run Tryd.prog W2.drew = .ok (.slice (some ⟨W2.heap.size, 0, none⟩) 12 12) w3 := hmk
  clear hmk
  have hO' : Own w3 W2.heap.size 5 .u8 W2.heap.size 12 12 (List.replicate 12 0) := by
    rw [show (Value.int .u8 0).cells = #[Value.int .u8 0] from rfl, toList_madeCells_one, Nat.mul_one, ← List.map_replicate] at hO
    exact hO
  have hb3 : Below W2.heap.size W2 w3 := (below_drawnN (Below.refl W2.heap.size W2) 1).trans ((Below.refl _ W2.drew).grown hg (Nat.le_refl _) (fun q hq => by cases hq))
  have HB3 := Lib.hid (HB2.out.trans (hb3.mono HB2.out.size)); have HK3 := Lib.hid (HK2.out.below hb3 HK2.out.inside)
  have c27 := run_convert_bytes_arg (P := Tryd.prog) W2.drew 28 5 Tryd.underlying28 Tryd.underlying5 w.heap.size 0 32 32 ks HK.out (whole_sliced W2.drew _ _ ks 32 HK2.out.drew HK.out) 9 Tryd.underlying9
  have c27' := run_convert_bytes_arg (P := Tryd.prog) w3 28 5 Tryd.underlying28 Tryd.underlying5 w.heap.size 0 32 32 ks HK.out (whole_sliced w3 _ _ ks 32 HK3.out HK.out) 9 Tryd.underlying9
  have c29 := run_convert_bytes_arg (P := Tryd.prog) w3 28 5 Tryd.underlying28 Tryd.underlying5 W2.heap.size 0 12 12 zz12 rfl (fun q hq => by rw [Nat.zero_add]; exact hO'.cell q hq) 9 Tryd.underlying9
  have RO := Lib.hid (fun W => ropen_calls (strOfNums ks) (strOfNums zz12) s x (key_of ks HK.out BK.out).2 (by rw [str_size]; rfl) (by have := HSZ.out; omega) (by have := HXZ.out; omega) W)
  rw [(key_of ks HK.out BK.out).1, bI_str (mem_of_U8s zz12_u8), ← HS.out, ← HC.out] at RO
  generalize strOfNums ks = KEY at c27 c27' RO
  generalize strOfNums zz12 = ZZ at c29 RO
  clear hO hg hb3 hO' f1 f2 f3 f4
  go_region_with (go_at_call 25; refine (RO.out _).mono ?_; rintro e w' ⟨rfl, hb⟩)
  all_goals
    have HB4 := Lib.hid (HB3.out.trans (hb.mono HB3.out.size))
    clear hb c27 c27' c29 hmk'
    go_wp2_with fail
    have hco := code_open E c HCC.out w' (HE.out.below HB4.out)
    rw [← HV.out] at hco
    refine hco.mono ?_
    rintro e w5 ⟨rfl, rfl⟩
    clear hco
    go_wp2_with fail
    go_ret
    exact ⟨rfl, HB4.out⟩
end Go.Proofs.YtfoljmpphbhobaaDoor
