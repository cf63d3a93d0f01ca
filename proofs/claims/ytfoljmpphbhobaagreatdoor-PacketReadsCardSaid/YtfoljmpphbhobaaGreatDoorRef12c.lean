/- The reference of packet: Read answers what readI says. -/
import Derived.Test.YtfoljmpphbhobaaGreatDoorRef12b
namespace Go.Proofs.YtfoljmpphbhobaaGreatDoor
open Go.RowKit Go.Spk
set_option linter.unusedVariables false
/-- What Read answers. -/
def readV (r : Int × Bool × List Int × List Int) : Value := .tuple #[.string (strOfNums r.2.2.1), .string (strOfNums r.2.2.2), .bool r.2.1, .int .i64 r.1]
theorem rread_calls (b : Bool) (ks : List Int) (n : Nat) (s : ByteArray) (hk : ks.length = 32) (bk : U8s ks) (hn : n ≤ 1000000000) (hs : s.size ≤ 1000000) (w : World) (r : Int × Bool × List Int × List Int) (hr : readI b ks n (bI s) = r) :
    Calls Tryz.prog 17 #[.string s, .string (keyS b ks), .int .i64 n] w fun e w' => e = .returned (readV r) ∧ Below w.heap.size w w' := by
  unfold readI at hr
  rw [bI_length] at hr
  split at hr
  · rename_i h4
    subst hr
    unfold readV
    simp only [str_bI, nil_str]
    exact rread_short b ks n s h4 w
  · rename_i h4
    split at hr
    · rename_i hb
      subst hr
      exact rread_big b ks n s hk bk hn hs (by omega) hb w
    · rename_i hb
      split at hr
      · rename_i hf
        subst hr
        by_cases h1 : lenR (bI s) + aheadN b < aheadN b * 2 + 8
        · exact rread_form1 b ks n s hk bk hn hs (by omega) (by omega) h1 w
        · unfold formB at hf
          exact rread_form2 b ks n s hk bk hn hs (by omega) (by omega) h1 (by simpa [h1] using hf) w
      · rename_i hf
        have hf' : formB b (lenR (bI s)) = false := by simpa using hf
        split at hr
        · rename_i hw
          subst hr
          unfold readV
          simp only [str_bI, nil_str]
          exact rread_wait b ks n s hk bk hn hs (by omega) (by omega) hf' hw w
        · rename_i hw
          split at hr
          · rename_i hc
            subst hr
            exact rread_mac b ks n s hk bk hn hs (by omega) (by omega) hf' hw hc w
          · rename_i hc
            have hc' : bodyC b ks n (lenR (bI s)) (bI s) = 0 := by simpa using hc
            split at hr
            · rename_i hp
              subst hr
              unfold padB at hp
              by_cases h1 : ix (bodyR b ks n (lenR (bI s)) (bI s)) 0 < 4
              · exact rread_pad1 b ks n s hk bk hn hs (by omega) (by omega) hf' hw hc' h1 w
              · exact rread_pad2 b ks n s hk bk hn hs (by omega) (by omega) hf' hw hc' ⟨h1, by simpa [h1] using hp⟩ w
            · rename_i hp
              subst hr
              have hp2 : padB (bodyR b ks n (lenR (bI s)) (bI s)) = false := by simpa using hp
              unfold padB at hp2
              rw [Bool.or_eq_false_iff, decide_eq_false_iff_not, decide_eq_false_iff_not] at hp2
              unfold readV
              have e2 : strOfNums ((bI s).drop (allR b (lenR (bI s)))) = s.extract (allR b (lenR (bI s))) s.size := by rw [← bI_cut, str_bI]
              simp only [e2]
              exact rread_got b ks n s hk bk hn hs (by omega) (by omega) hf' hw hc' hp2 w
end Go.Proofs.YtfoljmpphbhobaaGreatDoor
