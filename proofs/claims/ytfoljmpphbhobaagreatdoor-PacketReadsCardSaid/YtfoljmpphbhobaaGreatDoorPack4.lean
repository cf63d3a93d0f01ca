/- packet's Pack where it is an error; Reader.body, Reader.fail. -/
import Derived.Test.YtfoljmpphbhobaaGreatDoorPack3
import Derived.Deep.QuietTactic
import Derived.BigQuiet
namespace Go.Proofs.YtfoljmpphbhobaaGreatDoor
open Go.RowKit Go.Spk
set_option linter.unusedVariables false
attribute [local go_sem ↓] Go.wp_at_zero Go.wp_at_succ
set_option maxHeartbeats 1000000 in
theorem pack_empty (g : Nat) (v : Value) (w : World) (c : w.cell? ⟨0, 0, none⟩ = some v) :
    Calls Tryz.prog 10 #[.pointer (some ⟨g, 0, none⟩), .string ⟨#[]⟩] w fun e w' => e = .returned (.tuple #[.string ⟨#[]⟩, v]) ∧ Below w.heap.size w w' := by
  go_enter Tryz.func10, Tryz.ntmps10
  go_wp2_with fail
  go_quiet (fail)
  go_wp2_with fail
  go_ret2
  exact ⟨rfl, below_drawnN (Below.refl _ _) _⟩
set_option maxHeartbeats 1000000 in
theorem pack_big (g : Nat) (v : Value) (p : ByteArray) (hp : 32768 < p.size) (hp2 : p.size ≤ 100000000) (w : World) (c : w.cell? ⟨1, 0, none⟩ = some v) :
    Calls Tryz.prog 10 #[.pointer (some ⟨g, 0, none⟩), .string p] w fun e w' => e = .returned (.tuple #[.string ⟨#[]⟩, v]) ∧ Below w.heap.size w w' := by
  have hne := str_ne (show 1 ≤ p.size by omega)
  have hne3 : p.toList.isEmpty = false := by simpa using hne
  have hne4 : (!p.toList.isEmpty) = true := by simpa using hne
  have i1 : (32768 : Int) < p.size := by omega
  go_enter Tryz.func10, Tryz.ntmps10
  go_wp2_with fail
  go_quiet (fail)
  go_wp2_with fail
  go_ret2
  exact ⟨rfl, below_drawnN (Below.refl _ _) _⟩
set_option maxHeartbeats 1000000 in
theorem wrap_calls (s : ByteArray) (t : TypeId) (v : Value) (w : World) :
    Calls Tryz.prog 55 #[.string s, .iface t v] w fun e w' => e = .returned (.iface 86 (.pointer (some ⟨w.heap.size, 0, none⟩))) ∧ w' = w.alloc (.cells #[.string s, .iface t v] 90) := by
  go_enter Tryz.func55, Tryz.ntmps55
  go_wp2_with fail
  go_ret
  exact ⟨rfl, rfl⟩
/-- What body answers. -/
def bodyV (b : Bool) (ks : List Int) (n : Nat) (size s : ByteArray) (vE vM : Value) : Value :=
  .tuple #[.string (strOfNums (if b then openS ks (nonceN n) (bI s) (bI size) else bI s)), if b then errV (openC ks (nonceN n) (bI s) (bI size)) vE vM else .nilIface]
set_option maxRecDepth 100000 in
set_option maxHeartbeats 2000000 in
theorem rbody_calls (g n : Nat) (b : Bool) (ks : List Int) (T : TypeId) (rest : Array Value) (size s : ByteArray) (hk : ks.length = 32) (bk : U8s ks) (hn : n ≤ 1000000000) (hz : size.size ≤ 1000000) (hs : s.size ≤ 1000000) (vE vM : Value) (w : World) (h : Whole w g T (lineRow n b ks ++ rest))
   (t0 : w.rangeAt 21 0 (beginI.map (Value.int .u32))) (t1 : w.rangeAt 22 0 orderC)
   (cE : w.cell? ⟨0, 0, none⟩ = some vE) (cM : w.cell? ⟨4, 0, none⟩ = some vM) :
    Calls Tryz.prog 36 #[.pointer (some ⟨g, 0, none⟩), .string size, .string s] w fun e w' => e = .returned (bodyV b ks n size s vE vM) ∧ Below w.heap.size w w' := by
  have c1 := (line_cells h).2
  cases b
  · unfold bodyV
    simp only [Bool.false_eq_true, if_false, str_bI]
    go_enter Tryz.func36, Tryz.ntmps36
    go_wp2_with fail
    go_ret2
    exact ⟨rfl, Below.refl _ _⟩
  · unfold bodyV
    simp only [if_true]
    have T0 := Lib.hid t0; have T1 := Lib.hid t1
    have HNN := Lib.hid (And.intro (nonceN_length n) (U8s_of_mem (nonceN_mem n)))
    generalize hNN : nonceN n = NN at HNN ⊢
    have HNE := Lib.hid hNN
    obtain ⟨O, hO⟩ : ∃ O, O = strOfNums (openS ks NN (bI s) (bI size)) := ⟨_, rfl⟩
    obtain ⟨V, hV⟩ : ∃ V, V = errV (openC ks NN (bI s) (bI size)) vE vM := ⟨_, rfl⟩
    rw [← hO, ← hV]
    have HO := Lib.hid hO; have HV := Lib.hid hV
    have HGE := Lib.hid (block_lt_of_cell cE); have HGM := Lib.hid (block_lt_of_cell cM); have HCE := Lib.hid cE; have HCM := Lib.hid cM
    have HI := Lib.hid (show (Tryz.prog.info? 25).map (·.size) = some (rowI .u8 ks).size by rw [rowI_size, hk]; kernel_rfl)
    have HH := Lib.hid h; have HK := Lib.hid hk; have BK := Lib.hid bk; have HN := Lib.hid hn
    clear hNN hO hV t0 t1 cE cM h hk bk hn
    go_enter Tryz.func36, Tryz.ntmps36
    go_wp2_with fail
    refine wp_region_class (fun W => Below w.heap.size w W) (by kernel_rfl) (by kernel_rfl) (below_drawnN (Below.refl _ _) 1) ?_
    refine wpQuiet_step (fun K hK => ?_)
    refine quiet_want (by kernel_rfl) ⟨(.pointer (some ⟨g, 0, none⟩)), fun W hW => ?_, ?_⟩
    · refine quietAt_val ?_
      go_simp
    go_simp
    refine hK _ ?_
    clear hK K
    refine wpQuiet_step (fun K hK => ?_)
    refine quiet_want (by kernel_rfl) ⟨(.pointer (some ⟨g, 0, none⟩)), fun W hW => ?_, ?_⟩
    · refine quietAt_val ?_
      go_simp
    go_simp
    refine hK _ ?_
    clear hK K
    refine wpQuiet_step (fun K hK => ?_)
    refine quiet_want (by kernel_rfl) ⟨(.pointer (some ⟨g, 0, none⟩)), fun W hW => ?_, ?_⟩
    · refine quietAt_val ?_
      go_simp
    go_simp
    refine hK _ ?_
    clear hK K
    refine wpQuiet_step (fun K hK => ?_)
    refine quiet_want (by kernel_rfl) ⟨(.pointer (some ⟨g, 2, none⟩)), fun W hW => ?_, ?_⟩
    · refine quietAt_val ?_
      go_simp
    go_simp
    refine hK _ ?_
    clear hK K
    refine wpQuiet_step (fun K hK => ?_)
    refine quiet_load_mid (by kernel_rfl) 25 (.tmp 18) rfl g 2 rfl (rowI .u8 ks) _ (fun W hW => line_key (HH.out.below hW HH.out.inside)) Tryz.underlying25 rfl HI.out ?_
    go_simp
    refine hK _ ?_
    clear hK K
    refine wpQuiet_step (fun K hK => ?_)
    refine quiet_want (by kernel_rfl) ⟨(.pointer (some ⟨g, 0, none⟩)), fun W hW => ?_, ?_⟩
    · refine quietAt_val ?_
      go_simp
    go_simp
    refine hK _ ?_
    clear hK K
    refine wpQuiet_step (fun K hK => ?_)
    refine quiet_want (by kernel_rfl) ⟨(.pointer (some ⟨g, 0, none⟩)), fun W hW => ?_, ?_⟩
    · refine quietAt_val ?_
      go_simp
    go_simp
    refine hK _ ?_
    clear hK K
    refine wpQuiet_step (fun K hK => ?_)
    refine quiet_want (by kernel_rfl) ⟨(.pointer (some ⟨g, 0, none⟩)), fun W hW => ?_, ?_⟩
    · refine quietAt_val ?_
      go_simp
    go_simp
    refine hK _ ?_
    clear hK K
    refine wpQuiet_step (fun K hK => ?_)
    refine quiet_want (by kernel_rfl) ⟨(.agg (rowI .u8 NN)), fun W hW => ?_, ?_⟩
    · refine quietAt_call (f := 28) (args := (#[.pointer (some ⟨g, 0, none⟩)])) (by go_simp) ?_
      refine (nonce_calls g n true ks _ rest (by have := HN.out; omega) W (HH.out.below hW HH.out.inside)).mono ?_
      rw [HNE.out]
      rintro e W' ⟨rfl, hb⟩
      exact ⟨rfl, hW.trans (hb.mono hW.size)⟩
    go_simp
    refine hK _ ?_
    clear hK K
    refine wpQuiet_step (fun K hK => ?_)
    refine quiet_want (by kernel_rfl) ⟨(.string s), fun W hW => ?_, ?_⟩
    · refine quietAt_val ?_
      go_simp
    go_simp
    refine hK _ ?_
    clear hK K
    refine wpQuiet_step (fun K hK => ?_)
    refine quiet_want (by kernel_rfl) ⟨(.string size), fun W hW => ?_, ?_⟩
    · refine quietAt_val ?_
      go_simp
    go_simp
    refine hK _ ?_
    clear hK K
    refine wpQuiet_step (fun K hK => ?_)
    refine quiet_want (by kernel_rfl) ⟨(.tuple #[.string O, V]), fun W hW => ?_, ?_⟩
    · refine quietAt_call (f := 56) (args := (#[.agg (rowI .u8 ks), .agg (rowI .u8 NN), .string s, .string size])) (by go_simp) ?_
      refine (popen_calls ks NN s size HK.out HNN.out.1 BK.out HNN.out.2 (by omega) (by omega) vE vM W (rangeAt_below T0.out hW) (rangeAt_below T1.out hW) ((hW.cell (p := ⟨_, 0, none⟩) HGE.out).trans HCE.out) ((hW.cell (p := ⟨_, 0, none⟩) HGM.out).trans HCM.out)).mono ?_
      rw [← HO.out, ← HV.out]
      rintro e W' ⟨rfl, hb⟩
      exact ⟨rfl, hW.trans (hb.mono hW.size)⟩
    go_simp
    refine hK _ ?_
    clear hK K
    refine wpQuiet_step (fun K hK => ?_)
    refine quiet_want (by kernel_rfl) ⟨(.string O), fun W hW => ?_, ?_⟩
    · refine quietAt_val ?_
      go_simp
    go_simp
    refine hK _ ?_
    clear hK K
    refine wpQuiet_step (fun K hK => ?_)
    refine quiet_want (by kernel_rfl) ⟨V, fun W hW => ?_, ?_⟩
    · refine quietAt_val ?_
      go_simp
    go_simp
    refine hK _ ?_
    clear hK K
    refine wpQuiet_step (fun K hK => ?_)
    refine quiet_want (by kernel_rfl) ⟨(.string O), fun W hW => ?_, ?_⟩
    · refine quietAt_val ?_
      go_simp
    go_simp
    refine hK _ ?_
    clear hK K
    refine wpQuiet_step (fun K hK => ?_)
    refine quiet_want (by kernel_rfl) ⟨V, fun W hW => ?_, ?_⟩
    · refine quietAt_val ?_
      go_simp
    go_simp
    refine hK _ ?_
    clear hK K
    refine wpQuiet_nil ?_
    intro W1 hF1
    have HF1 := Lib.hid hF1
    clear hF1
    go_wp2_with fail
    go_ret2
    exact ⟨rfl, HF1.out⟩
def packetS : ByteArray := ⟨#[112, 97, 99, 107, 101, 116]⟩
def faultV (p : Nat) : Value := .iface 86 (.pointer (some ⟨p, 0, none⟩))
theorem read_cells {w : World} {g : Nat} {T : TypeId} {n : Nat} {b : Bool} {ks : List Int} {s : ByteArray} {e : Value} (hk : ks.length = 32) (h : Whole w g T (lineRow n b ks ++ #[.string s, e])) :
    w.cell? ⟨g, 34, none⟩ = some (.string s) ∧ w.cell? ⟨g, 35, none⟩ = some e := by
  rw [h.at_, h.at_, line_list2]
  constructor
  · rw [List.getElem?_toArray, List.getElem?_append_right (by simp [hk])]; simp [hk]
  · rw [List.getElem?_toArray, List.getElem?_append_right (by simp [hk])]; simp [hk]
theorem read_set {w : World} {g : Nat} {T : TypeId} {n : Nat} {b : Bool} {ks : List Int} {s : ByteArray} {e : Value} (hk : ks.length = 32) (h : Whole w g T (lineRow n b ks ++ #[.string s, e])) (s2 : ByteArray) :
    Whole (w.setCell ⟨g, 34, none⟩ (.string s2)) g T (lineRow n b ks ++ #[.string s2, e]) := by
  have h1 := h.stored 34 (.string s2)
  have e1 : (lineRow n b ks ++ #[.string s, e]).setIfInBounds 34 (.string s2) = lineRow n b ks ++ #[.string s2, e] := by
    rw [line_list2, line_list2, List.setIfInBounds_toArray, List.set_append_right _ _ (by simp [hk])]; simp [hk]
  rwa [e1] at h1
theorem read_err {w : World} {g : Nat} {T : TypeId} {n : Nat} {b : Bool} {ks : List Int} {s : ByteArray} {e : Value} (hk : ks.length = 32) (h : Whole w g T (lineRow n b ks ++ #[.string s, e])) (e2 : Value) :
    Whole (w.setCell ⟨g, 35, none⟩ e2) g T (lineRow n b ks ++ #[.string s, e2]) := by
  have h1 := h.stored 35 e2
  have e1 : (lineRow n b ks ++ #[.string s, e]).setIfInBounds 35 e2 = lineRow n b ks ++ #[.string s, e2] := by
    rw [line_list2, line_list2, List.setIfInBounds_toArray, List.set_append_right _ _ (by simp [hk])]; simp [hk]
  rwa [e1] at h1
set_option maxRecDepth 100000 in
set_option maxHeartbeats 2000000 in
theorem rfail_calls (g n : Nat) (b : Bool) (ks : List Int) (s : ByteArray) (e0 : Value) (T t : TypeId) (v : Value) (hk : ks.length = 32) (w : World) (h : Whole w g T (lineRow n b ks ++ #[.string s, e0])) :
    Calls Tryz.prog 35 #[.pointer (some ⟨g, 0, none⟩), .iface t v] w fun e w' => e = .returned (.tuple #[.string ⟨#[]⟩, .bool false, faultV w.heap.size]) ∧ Whole w' g T (lineRow n b ks ++ #[.string ⟨#[]⟩, faultV w.heap.size]) ∧ w.grownBy w' (some g) ∧ Whole w' w.heap.size 90 #[.string packetS, .iface t v] := by
  have h1 := h.alloc (.cells #[.string packetS, .iface t v] 90)
  have HW := Lib.hid h1; have HK := Lib.hid hk; have HG := Lib.hid h.inside
  have c34 := (read_cells hk h1).1
  have c35 := (read_cells hk h1).2
  have f34 := h1.free 34
  have f35 := h1.free 35
  clear h1 hk h
  go_enter Tryz.func35, Tryz.ntmps35
  go_wp2_with fail
  refine (wrap_calls packetS t v w).mono ?_
  rintro e w' ⟨rfl, rfl⟩
  go_wp2_with fail
  generalize hW : World.setCell (World.setCell _ _ _) _ _ = W1
  have hF : Whole W1 g T (lineRow n b ks ++ #[.string ⟨#[]⟩, faultV w.heap.size]) ∧ w.grownBy W1 (some g) ∧ Whole W1 w.heap.size 90 #[.string packetS, .iface t v] := by
    have hg := HG.out
    subst hW
    exact ⟨read_err HK.out (read_set HK.out HW.out _) _, only_trans (only_trans (World.grownBy_alloc w _ _) (only_stored _ rfl _)) (only_stored _ rfl _), ((Whole.made w _ _).elsewhere _ (Nat.ne_of_lt hg) _).elsewhere _ (Nat.ne_of_lt hg) _⟩
  have HF := Lib.hid hF
  have c := (read_cells HK.out hF.1).2
  clear hW hF c34 c35 f34 f35
  unfold faultV at c
  go_quiet (fail)
  go_wp2_with fail
  go_ret3
  exact ⟨rfl, HF.out.1, only_drawnN HF.out.2.1 _, HF.out.2.2⟩
end Go.Proofs.YtfoljmpphbhobaaGreatDoor
