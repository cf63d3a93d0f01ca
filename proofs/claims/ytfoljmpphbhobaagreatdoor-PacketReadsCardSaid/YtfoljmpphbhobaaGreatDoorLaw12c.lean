/- The walk of PacketWrites: it answers true. -/
import Derived.Test.YtfoljmpphbhobaaGreatDoorLaw12b
import Derived.Test.YtfoljmpphbhobaaGreatDoorRef12
namespace Go.Proofs.YtfoljmpphbhobaaGreatDoor
open Go.RowKit Go.Spk
set_option linter.unusedVariables false
attribute [local go_sem ↓] Go.wp_at_zero Go.wp_at_succ
/-- A writer in a block of the law's own. -/
structure One (w W : World) (gw n : Nat) (b : Bool) (ks : List Int) : Prop where
  below : Below w.heap.size w W
  wr : Whole W gw 29 (lineRow n b ks ++ #[])
  lw : w.heap.size ≤ gw
  lk : ks.length = 32
  uk : U8s ks
theorem One.keep {w W W' : World} {gw n : Nat} {b : Bool} {ks : List Int} (h : One w W gw n b ks) (hb : Below W.heap.size W W') : One w W' gw n b ks :=
  ⟨h.below.trans (hb.mono h.below.size), h.wr.below hb h.wr.inside, h.lw, h.lk, h.uk⟩
theorem One.to {w W W' : World} {gw n n' : Nat} {b b' : Bool} {ks ks' : List Int} (h : One w W gw n b ks) (h' : Whole W' gw 29 (lineRow n' b' ks' ++ #[])) (hg : W.grownBy W' (some gw)) (lk : ks'.length = 32) (uk : U8s ks') : One w W' gw n' b' ks' :=
  ⟨below_some h.below hg h.lw, h', h.lw, lk, uk⟩
theorem One.new {w W : World} (hb : Below w.heap.size w W) : One w (W.alloc (.cells (lineRow 0 false z32 ++ #[]) 29)) W.heap.size 0 false z32 :=
  ⟨hb.alloc hb.size _, Whole.new rfl rfl, hb.size, z32_len, z32_u8⟩
theorem packed_size (b : Bool) (ks : List Int) (n : Nat) (p : ByteArray) (hp : p.size ≤ 1000) : (strOfNums (packI b ks n (bI p))).size ≤ 1100 := by
  have := padP_bd b p.size
  rw [str_size, packI_length, bI_length]
  unfold allR tagN
  split <;> omega
set_option maxRecDepth 100000 in
set_option maxHeartbeats 8000000 in
theorem writes_calls (A : Option Addr) (its : List Itm) (cap : Nat) (hl : its.length ≤ maxLen) (E : Nat → Addr) (w : World) (hI : ItemsAt w A its) (hE : Errs w E)
   (t0 : w.rangeAt 21 0 (beginI.map (Value.int .u32))) (t1 : w.rangeAt 22 0 orderC) :
    Calls Tryz.prog 3 #[.slice A its.length cap] w fun e w' => e = .returned (.bool true) ∧ Below w.heap.size w w' := by
  have T0 := Lib.hid t0; have T1 := Lib.hid t1; have HE := Lib.hid hE; have HI := Lib.hid hI
  unfold maxLen at hl
  clear t0 t1 hE hI
  go_enter Tryz.func3, Tryz.ntmps3
  go_wp2_with fail
  refine (awake12_calls E w HE.out.four T0.out T1.out).mono ?_
  rintro e W1 ⟨rfl, hb1⟩
  have HB1 := Lib.hid hb1
  clear hb1
  go_wp2_with fail
  obtain ⟨gw, hgw⟩ : ∃ gw, gw = W1.heap.size := ⟨_, rfl⟩
  rw [← hgw]
  generalize hW : W1.alloc _ = W2
  have HT0 := Lib.hid (show One w W2 gw 0 false z32 by subst hW; subst hgw; exact One.new HB1.out)
  clear hW hgw
  go_loopw [4, 5, 6] (fun kv n i wr => ∃ k kn : Nat, k ≤ 10 ∧ kn ≤ k ∧ n = .int .i64 kn ∧ i = .int .i64 k ∧ ∃ b ks, kv = .string (keyS b ks) ∧ One w wr gw kn b ks) (fun _ _ i _ => (11 - intOf i).toNat)
  case atStart => exact ⟨0, 0, by omega, by omega, rfl, rfl, false, z32, rfl, HT0.out⟩
  case round =>
    obtain ⟨k, kn, hk, hkn, rfl, rfl, b, ks, rfl, hT⟩ := hrel
    have HT := Lib.hid hT
    clear hT HT0
    obtain ⟨key, hkey⟩ : ∃ key, key = keyS b ks := ⟨_, rfl⟩
    rw [← hkey]
    have HKEY := Lib.hid hkey
    clear hkey
    by_cases hlt : k < its.length ∧ k < 10
    · obtain ⟨hlt1, hlt2⟩ := hlt
      obtain ⟨it, hit⟩ : ∃ it, its[k]? = some it := ⟨its[k], List.getElem?_eq_getElem hlt1⟩
      obtain ⟨q1, q2, B, o, rfl, q3, q4, q5, q6⟩ := HI.out k it hit
      have HQ := Lib.hid (And.intro q1 q2); have HQ3 := Lib.hid q3
      have HI32 := Lib.hid (show (Tryz.prog.info? 25).map (·.size) = some (it.key.map (Value.int .u8)).length by rw [List.length_map, q1]; kernel_rfl)
      have i1 : (k : Int) < its.length := by omega
      have i2 : (k : Int) < 10 := by omega
      have HQ5 := Lib.hid q5
      have q4' : wr.cell? ⟨B, o + k * 34, none⟩ = some (.bool it.lock) := (HT.out.below.cell (p := ⟨B, o + k * 34, none⟩) q3).trans q4
      have q6' : wr.cell? ⟨B, o + k * 34 + 33, none⟩ = some (.string it.s) := (HT.out.below.cell (p := ⟨B, o + k * 34 + 33, none⟩) q3).trans q6
      clear q1 q2 q3 q4 q5 q6 hit
      cases hlk : it.lock
      · rw [hlk] at q4'
        clear hlk
        go_wp2_with fail
        refine (cut_calls it.s 60 (by decide) _).mono ?_
        rintro e wr' ⟨⟨s, rfl, hcut, hsz⟩, rfl⟩
        have HSZ := Lib.hid hsz
        clear hcut q4' q6' hsz
        by_cases h0 : s.size = 0
        · obtain rfl := size_zero h0
          clear h0
          go_wp2_with fail
          refine (pack_empty gw (errI (E 1)) wr ((HE.out.below HT.out.below).var 1 (by decide))).mono ?_
          rintro e W3 ⟨rfl, hb3⟩
          have HT3 := Lib.hid (HT.out.keep hb3)
          clear hb3
          unfold errI
          go_wp2_with fail
          refine (code_bare E 1 (by decide) W3 (HE.out.below HT3.out.below)).mono ?_
          rw [show ((1 : Nat) : Int) + 1 = 2 from rfl]
          rintro e w4 ⟨rfl, rfl⟩
          go_wp2_with fail
          go_roundw
          case rel => exact ⟨k + 1, kn, by omega, by omega, rfl, by go_num, b, ks, by rw [HKEY.out], HT3.out⟩
          case measure => simp [intOf]; omega
        · have hs1 : 1 ≤ s.size := by omega
          have hne := str_ne hs1
          have hne3 : s.toList.isEmpty = false := by simpa using hne
          have hne4 : (!s.toList.isEmpty) = true := by simpa using hne
          clear h0
          go_wp2_with fail
          obtain ⟨P, hP⟩ : ∃ P, P = strOfNums (packI b ks kn (bI s)) := ⟨_, rfl⟩
          have HP := Lib.hid hP
          refine (pack_calls gw kn b ks s HT.out.lk HT.out.uk hs1 (by have := HSZ.out; omega) (by omega) wr HT.out.wr (rangeAt_below T0.out HT.out.below) (rangeAt_below T1.out HT.out.below)).mono ?_
          rw [← hP]
          rintro e W3 ⟨rfl, h3, g3⟩
          have HT3 := Lib.hid (HT.out.to h3 g3 HT.out.lk HT.out.uk)
          clear h3 g3 hP
          go_wp2_with fail
          refine (show Calls Tryz.prog _ #[.string s, .string key, .int .i64 kn] W3 _ from (by rw [HKEY.out, HP.out]; exact rpack_calls b ks kn s HT.out.lk HT.out.uk (by have := HSZ.out; omega) (by omega) W3 : Calls Tryz.prog 12 #[.string s, .string key, .int .i64 kn] W3 fun e w' => e = .returned (.string P) ∧ Below W3.heap.size W3 w')).mono ?_
          rintro e W4 ⟨rfl, hb4⟩
          have HT4 := Lib.hid (HT3.out.keep hb4)
          clear hb4
          go_wp2_with fail
          go_roundw
          case rel => exact ⟨k + 1, kn + 1, by omega, by omega, by go_num, by go_num, b, ks, by rw [HKEY.out], HT4.out⟩
          case measure => simp [intOf]; omega
      · rw [hlk] at q4'
        clear hlk
        have hr1 := rangeAt_below HQ5.out HT.out.below
        go_wp2_with (first
          | (refine wpList_load_mid rfl 25 (.tmp 30) rfl B (o + k * 34 + 1) rfl (it.key.map (Value.int .u8)) _ hr1 Tryz.underlying25 rfl HI32.out ?_)
          | fail)
        clear hr1
        refine (wseal_calls gw kn b ks it.key _ #[] HT.out.lk HQ.out.1 wr HT.out.wr).mono ?_
        rintro e W3 ⟨rfl, h3, g3⟩
        have HT3 := Lib.hid (HT.out.to h3 g3 HQ.out.1 HQ.out.2)
        clear h3 g3
        have hcv := run_convert_bytes_arg (P := Tryz.prog) W3 33 5 Tryz.underlying33 Tryz.underlying5 B (o + k * 34 + 1) 32 32 it.key HQ.out.1 (fun q hq => by
          have h := rangeAt_below HQ5.out HT3.out.below
          have h2 := h q (.int .u8 (it.key.getD q 0)) (by simp [List.getD, HQ.out.1, hq])
          exact h2) 9 Tryz.underlying9
        go_wp2_with fail
        go_roundw
        case rel => exact ⟨k + 1, kn, by omega, by omega, rfl, by go_num, true, it.key, rfl, HT3.out⟩
        case measure => simp [intOf]; omega
    · have c0 := (line_cells HT.out.wr).1
      have hwk : IntKind.u64.wrap (kn : Int) = (kn : Int) := by
        have e : IntKind.u64.wrap (kn : Int) = (kn : Int) % 18446744073709551616 := by simp [IntKind.wrap, IntKind.bits, IntKind.signed]
        rw [e]; omega
      by_cases h12 : k < its.length
      · have i1 : (k : Int) < its.length := by omega
        have i2 : ¬ (k : Int) < 10 := by omega
        go_wp2_with fail
        refine (count_calls gw kn _ c0).mono ?_
        rintro e w5 ⟨rfl, hw⟩
        obtain rfl := hw.symm
        go_wp2_with fail
        go_ret
        exact ⟨rfl, HT.out.below⟩
      · have i1 : ¬ (k : Int) < its.length := by omega
        go_wp2_with fail
        refine (count_calls gw kn _ c0).mono ?_
        rintro e w5 ⟨rfl, hw⟩
        obtain rfl := hw.symm
        go_wp2_with fail
        go_ret
        exact ⟨rfl, HT.out.below⟩
end Go.Proofs.YtfoljmpphbhobaaGreatDoor
