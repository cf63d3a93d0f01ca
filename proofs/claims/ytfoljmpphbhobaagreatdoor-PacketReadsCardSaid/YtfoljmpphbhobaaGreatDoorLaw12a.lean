/- The walk of PacketLong: it answers true. -/
import Derived.Test.YtfoljmpphbhobaaGreatDoorPack7
import Derived.OwnWalk
namespace Go.Proofs.YtfoljmpphbhobaaGreatDoor
open Go.RowKit Go.Spk
set_option linter.unusedVariables false
attribute [local go_sem ↓] Go.wp_at_zero Go.wp_at_succ
theorem and_low (x : Int) (k : Nat) (hk : k < 65536) : ∃ m : Nat, m ≤ k ∧ bits .and .i64 x (k : Int) = (m : Int) := by
  refine ⟨(BitVec.ofInt 64 x).toNat &&& k, Nat.and_le_right, ?_⟩
  have h : (BitVec.ofInt 64 x).toNat &&& k ≤ k := Nat.and_le_right
  show IntKind.i64.wrap ((BitVec.ofInt 64 x &&& BitVec.ofInt 64 (k : Int)).toNat : Int) = _
  rw [BitVec.toNat_and, ofInt_u64 k (by omega), IntKind.wrap_i64]
  omega
def key1 : List Int := [1, 0, 0, 0, 0, 0, 0, 0, 0, 0, 0, 0, 0, 0, 0, 0, 0, 0, 0, 0, 0, 0, 0, 0, 0, 0, 0, 0, 0, 0, 0, 0]
theorem key1_len : key1.length = 32 := rfl
theorem key1_u8 : U8s key1 := U8s_of (by decide)
/-- A writer and a reader with one key, in two blocks of the law's own. -/
structure Two (w W : World) (gw gr nw nr : Nat) (b : Bool) (ks : List Int) (s : ByteArray) : Prop where
  below : Below w.heap.size w W
  wr : Whole W gw 29 (lineRow nw b ks ++ #[])
  rd : Whole W gr 44 (lineRow nr b ks ++ #[.string s, .nilIface])
  lw : w.heap.size ≤ gw
  lr : w.heap.size ≤ gr
  ne : gw ≠ gr
  lk : ks.length = 32
  uk : U8s ks
section
variable {w W W' : World} {gw gr nw nr n' : Nat} {b b' : Bool} {ks ks' : List Int} {s s' : ByteArray}
theorem Two.keep (h : Two w W gw gr nw nr b ks s) (hb : Below W.heap.size W W') : Two w W' gw gr nw nr b ks s :=
  ⟨h.below.trans (hb.mono h.below.size), h.wr.below hb h.wr.inside, h.rd.below hb h.rd.inside, h.lw, h.lr, h.ne, h.lk, h.uk⟩
theorem Two.wrote (h : Two w W gw gr nw nr b ks s) (h' : Whole W' gw 29 (lineRow n' b ks ++ #[])) (hg : W.grownBy W' (some gw)) : Two w W' gw gr n' nr b ks s :=
  ⟨below_some h.below hg h.lw, h', h.rd.only hg (ne_some (Ne.symm h.ne)), h.lw, h.lr, h.ne, h.lk, h.uk⟩
theorem Two.did (h : Two w W gw gr nw nr b ks s) (h' : Whole W' gr 44 (lineRow n' b ks ++ #[.string s', .nilIface])) (hg : W.grownBy W' (some gr)) : Two w W' gw gr nw n' b ks s' :=
  ⟨below_some h.below hg h.lr, h.wr.only hg (ne_some h.ne), h', h.lw, h.lr, h.ne, h.lk, h.uk⟩
theorem Two.lock {W1 W2 : World} {nk : List Int} (h : Two w W gw gr nw nr b ks s) (hw : Whole W1 gw 29 (lineRow nw true nk ++ #[])) (g1 : W.grownBy W1 (some gw)) (hr : Whole W2 gr 44 (lineRow nr true nk ++ #[.string s, .nilIface])) (g2 : W1.grownBy W2 (some gr))
    (hn : nk.length = 32) (un : U8s nk) : Two w W2 gw gr nw nr true nk s :=
  ⟨below_some (below_some h.below g1 h.lw) g2 h.lr, hw.only g2 (ne_some h.ne), hr, h.lw, h.lr, h.ne, hn, un⟩
theorem Two.reader {W1 : World} (h : Two w W gw gr nw nr b ks s) (g1 : W.grownBy W1 (some gw)) : Whole W1 gr 44 (lineRow nr b ks ++ #[.string s, .nilIface]) := h.rd.only g1 (ne_some (Ne.symm h.ne))
end
theorem packI_mem (b : Bool) (ks : List Int) (n : Nat) (ws : List Int) (hw : U8s ws) : ∀ z ∈ packI b ks n ws, 0 ≤ z ∧ z ≤ 255 := by
  intro z hz
  unfold packI at hz
  rcases List.mem_append.1 hz with h | h
  · exact beT_mem _ _ _ z h
  · unfold outP at h
    cases b
    · exact bodyP_mem false ws hw z h
    · exact sealI_mem _ _ _ _ z h
theorem read_packed (b : Bool) (ks : List Int) (n : Nat) (p P : ByteArray) (hP : P = strOfNums (packI b ks n (bI p))) (h1 : 1 ≤ p.size) (hl : p.size ≤ 32768) :
    readI b ks n (bI P) = (0, true, bI p, bI ⟨#[]⟩) ∧ P.size = allR b (p.size + 1 + padP b p.size) := by
  have h := read_pack b ks n (bI p) [] (U8s_bI p) (by rw [bI_length]; exact h1) (by rw [bI_length]; exact hl)
  rw [List.append_nil] at h
  constructor
  · rw [hP, bI_str (packI_mem b ks n _ (U8s_bI p))]; exact h
  · rw [hP, str_size, packI_length, bI_length]
theorem allR_le (b : Bool) (k : Nat) (hk : k ≤ 32768) : allR b (k + 1 + padP b k) ≤ 32820 := by
  have := padP_bd b k
  unfold allR tagN
  split <;> omega
theorem nil_cat (P : ByteArray) : (⟨#[]⟩ : ByteArray) ++ P = P := by
  apply bI_ext
  rw [bI_cat]
  rfl
theorem reader_new : (#[.int .u64 0, .bool false, .int .u8 0, .int .u8 0, .int .u8 0, .int .u8 0, .int .u8 0, .int .u8 0, .int .u8 0, .int .u8 0, .int .u8 0, .int .u8 0, .int .u8 0, .int .u8 0, .int .u8 0, .int .u8 0, .int .u8 0, .int .u8 0, .int .u8 0, .int .u8 0, .int .u8 0, .int .u8 0, .int .u8 0, .int .u8 0, .int .u8 0, .int .u8 0, .int .u8 0, .int .u8 0, .int .u8 0, .int .u8 0, .int .u8 0, .int .u8 0, .int .u8 0, .int .u8 0, .string ⟨#[]⟩, .nilIface] : Array Value) = lineRow 0 false z32 ++ #[.string ⟨#[]⟩, .nilIface] := rfl
theorem Two.new {w W : World} (hb : Below w.heap.size w W) : Two w ((W.alloc (.cells (lineRow 0 false z32 ++ #[]) 29)).alloc (.cells (lineRow 0 false z32 ++ #[.string ⟨#[]⟩, .nilIface]) 44)) W.heap.size (W.heap.size + 1) 0 0 false z32 ⟨#[]⟩ :=
  ⟨(hb.alloc hb.size _).alloc (Nat.le_trans hb.size (by simp)) _, (Whole.new rfl rfl).alloc _, Whole.new (by simp) rfl, hb.size, Nat.le_trans hb.size (Nat.le_succ _), Nat.ne_of_lt (Nat.lt_succ_self _), z32_len, z32_u8⟩
theorem Two.grown {w W W' : World} {gw gr nw nr : Nat} {b : Bool} {ks : List Int} {s : ByteArray} (h : Two w W gw gr nw nr b ks s) (hg : W.grownBy W' none) : Two w W' gw gr nw nr b ks s :=
  ⟨h.below.grown hg h.below.size (fun k hk => by cases hk), h.wr.only hg (by simp), h.rd.only hg (by simp), h.lw, h.lr, h.ne, h.lk, h.uk⟩
theorem long_made {w W1 W2 : World} {N : Nat} (hb : Below w.heap.size w W1)
    (hown : W2.ownsRow w.heap.size 5 1 (.slice (some ⟨((W1.alloc (.cells (lineRow 0 false z32 ++ #[]) 29)).alloc (.cells (lineRow 0 false z32 ++ #[.string ⟨#[]⟩, .nilIface]) 44)).heap.size, 0, none⟩) N N) N (madeCells (Value.int .u8 0).cells (N * 1)).toList)
    (hg : ((W1.alloc (.cells (lineRow 0 false z32 ++ #[]) 29)).alloc (.cells (lineRow 0 false z32 ++ #[.string ⟨#[]⟩, .nilIface]) 44)).grownBy W2 none) :
    Two w W2 W1.heap.size (W1.heap.size + 1) 0 0 false z32 ⟨#[]⟩ ∧ Own W2 w.heap.size 5 .u8 (W1.heap.size + 1 + 1) N N (List.replicate N 0) := by
  refine ⟨(Two.new hb).grown hg, ?_⟩
  rw [show (Value.int .u8 0).cells = #[Value.int .u8 0] from rfl, toList_madeCells_one, Nat.mul_one, ← List.map_replicate] at hown
  have e : ((W1.alloc (.cells (lineRow 0 false z32 ++ #[]) 29)).alloc (.cells (lineRow 0 false z32 ++ #[.string ⟨#[]⟩, .nilIface]) 44)).heap.size = W1.heap.size + 1 + 1 := by simp
  rw [e] at hown
  exact hown
theorem long_made2 {w W W2 : World} {gw gr nw nr N H : Nat} {b : Bool} {ks : List Int} {s : ByteArray} (hT : Two w W gw gr nw nr b ks s) (hH : W.heap.size = H)
    (hown : W2.ownsRow w.heap.size 5 1 (.slice (some ⟨W.heap.size, 0, none⟩) N N) N (madeCells (Value.int .u8 0).cells (N * 1)).toList)
    (hg : W.grownBy W2 none) :
    Two w W2 gw gr nw nr b ks s ∧ Own W2 w.heap.size 5 .u8 W.heap.size N N (List.replicate N 0) := by
  refine ⟨hT.grown hg, ?_⟩
  rw [show (Value.int .u8 0).cells = #[Value.int .u8 0] from rfl, toList_madeCells_one, Nat.mul_one, ← List.map_replicate] at hown
  exact hown
theorem long_conv {w W2 : World} {g N : Nat} (h : Own W2 w.heap.size 5 .u8 g N N (List.replicate N 0)) :
    (convert 33 9 (.slice (some ⟨g, 0, none⟩) N N)).run Tryz.prog W2 = .ok (.string (strOfNums (List.replicate N 0))) W2 :=
  run_convert_bytes_arg (P := Tryz.prog) W2 33 5 Tryz.underlying33 Tryz.underlying5 g 0 N N (List.replicate N 0) (by simp) (fun q hq => by
    rw [Nat.zero_add, h.cell q hq]; rfl) 9 Tryz.underlying9
end Go.Proofs.YtfoljmpphbhobaaGreatDoor
