/- The walk of speakeasylaw04.awake: it answers true. · The walk of PolySums: it answers true. · The walk of PolySeals: it answers true. · The walk of PolyEdges: it answers true. -/
import Derived.Test.YtfoljmpphbhobaaGreatDoorA7
import Derived.Test.YtfoljmpphbhobaaGreatDoorA4
namespace Go.Proofs.YtfoljmpphbhobaaGreatDoor
open Go.RowKit Go.Spk
set_option linter.unusedVariables false
def keyP : List Int := [133, 214, 190, 120, 87, 85, 109, 51, 127, 68, 82, 254, 66, 213, 6, 168, 1, 3, 128, 138, 251, 13, 178, 253, 74, 191, 246, 175, 65, 73, 245, 27]
def txtP : ByteArray := ⟨#[67, 114, 121, 112, 116, 111, 103, 114, 97, 112, 104, 105, 99, 32, 70, 111, 114, 117, 109, 32, 82, 101, 115, 101, 97, 114, 99, 104, 32, 71, 114, 111, 117, 112]⟩
def hexP : ByteArray := ⟨#[97, 56, 48, 54, 49, 100, 99, 49, 51, 48, 53, 49, 51, 54, 99, 54, 99, 50, 50, 98, 56, 98, 97, 102, 48, 99, 48, 49, 50, 55, 97, 57]⟩
theorem keyP_u8 : U8s keyP := U8s_of (by decide +kernel)
theorem awake4_val : strOfNums (hexI (bI (strOfNums (polyI keyP (bI txtP)))) 16) = hexP := by decide +kernel
def zz12 : List Int := [0, 0, 0, 0, 0, 0, 0, 0, 0, 0, 0, 0]
theorem zz12_u8 : U8s zz12 := U8s_of (by decide)
/-- What is sealed is opened. -/
theorem open_seal (ks ns ws es : List Int) (hw : U8s ws) : openS ks ns (sealI ks ns ws es) es = ws ∧ openC ks ns (sealI ks ns ws es) es = 0 := by
  have hl : (sealI ks ns ws es).length = ws.length + 16 := by unfold sealI; rw [List.length_append, xorI_length, markI_length]
  have h16 : ¬ (sealI ks ns ws es).length < 16 := by omega
  have hn : (sealI ks ns ws es).length - 16 = (xorI ks 1 ns ws).length := by rw [xorI_length]; omega
  have ht : (sealI ks ns ws es).take ((sealI ks ns ws es).length - 16) = xorI ks 1 ns ws := by
    rw [hn]; unfold sealI; rw [List.take_left]
  have hd : (sealI ks ns ws es).drop ((sealI ks ns ws es).length - 16) = markI ks ns (xorI ks 1 ns ws) es := by
    rw [hn]; unfold sealI; rw [List.drop_left]
  have hf : fitsI ks ns (sealI ks ns ws es) es = true := by
    unfold fitsI
    rw [ht, hd]
    exact beq_self_eq_true _
  constructor
  · unfold openS
    rw [if_neg h16, hf, if_pos rfl, ht, xorI_xorI _ _ _ _ hw]
  · unfold openC
    rw [if_neg h16, hf, if_pos rfl]
theorem sealI_mem (ks ns ws es : List Int) : ∀ b ∈ sealI ks ns ws es, 0 ≤ b ∧ b ≤ 255 := by
  intro b hb
  rcases List.mem_append.1 hb with h | h
  · exact xorI_mem _ _ _ _ b h
  · exact markI_mem _ _ _ _ b h
theorem sealI_length (ks ns ws es : List Int) : (sealI ks ns ws es).length = ws.length + 16 := by unfold sealI; rw [List.length_append, xorI_length, markI_length]
end Go.Proofs.YtfoljmpphbhobaaGreatDoor
namespace Go.Proofs.YtfoljmpphbhobaaGreatDoor
open Go.RowKit Go.Spk
set_option linter.unusedVariables false
theorem key_of (ks : List Int) (hk : ks.length = 32) (bk : ∀ b ∈ ks, 0 ≤ b ∧ b ≤ 255) : bI (strOfNums ks) = ks ∧ (strOfNums ks).size = 32 := ⟨bI_str bk, by rw [str_size, hk]⟩
end Go.Proofs.YtfoljmpphbhobaaGreatDoor
namespace Go.Proofs.YtfoljmpphbhobaaGreatDoor
open Go.RowKit Go.Spk
set_option linter.unusedVariables false
/-- The nonce that the law makes: the length, and the key's last byte. -/
def nonceS (n : Nat) (k : Int) : List Int := [(n : Int) % 256, 0, 0, 0, 0, 0, 0, 0, 0, 0, 0, k]
theorem nonceS_mem (n : Nat) (k : Int) (hk : 0 ≤ k ∧ k ≤ 255) : ∀ b ∈ nonceS n k, 0 ≤ b ∧ b ≤ 255 := by
  intro b hb
  simp only [nonceS, List.mem_cons, List.not_mem_nil, or_false] at hb
  rcases hb with rfl | rfl | rfl | rfl | rfl | rfl | rfl | rfl | rfl | rfl | rfl | rfl <;> omega
end Go.Proofs.YtfoljmpphbhobaaGreatDoor
namespace Go.Proofs.YtfoljmpphbhobaaGreatDoor
open Go.RowKit Go.Spk
set_option linter.unusedVariables false
theorem run_one' (W : World) (b : Int) : (convert 33 9 (.slice (some ⟨W.heap.size, 0, none⟩) 1 1)).run Tryz.prog (W.alloc (.cells #[.int .u8 b] 5)) = .ok (.string (strOfNums [b])) (W.alloc (.cells #[.int .u8 b] 5)) := run_one W b
end Go.Proofs.YtfoljmpphbhobaaGreatDoor
