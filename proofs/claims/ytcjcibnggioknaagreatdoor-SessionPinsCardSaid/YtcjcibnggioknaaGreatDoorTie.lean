/-
  DERIVED. GIVEN WITH THE SEED: THE PROGRAM's TIES (one call each: nine closed facts by the kernel) AND EACH ROW's TIE, after the 31st guide's Derived/Test/Toyas{Tie, Card}.lean. No idea stands in it: it is a product of the set-up. Laid BY PROGRAM, IN A SANDBOX (cutbox-door.mjs). By AI agents, Wed Nov 11 2026. No macro, syntax, notation, axiom, sorry.
-/
import Derived.Test.YtcjcibnggioknaaGreatDoorRows
import Derived.LaidByTextLater
import Derived.SevenTiedAt
import Derived.LaidSub
import Derived.LaidOnce
namespace Go.Proofs.YtcjcibnggioknaaGreatDoor
open Go
set_option maxRecDepth 100000
theorem seatTie1 : Tryz.prog.laidByTextLater [("speakeasy/chacha.begin", Rows.laid_speakeasy_chacha_begin), ("speakeasy/chacha.order", Rows.laid_speakeasy_chacha_order), ("speakeasy/scalar.order", Rows.laid_speakeasy_scalar_order), ("unicode/utf8.acceptRanges", Rows.laid_unicode_utf8_acceptRanges), ("errors.errorType", Rows.laid_errors_errorType), ("speakeasy/api.ErrArg", Rows.laid_speakeasy_api_ErrArg), ("speakeasy/api.ErrEnd", Rows.laid_speakeasy_api_ErrEnd), ("speakeasy/api.ErrForm", Rows.laid_speakeasy_api_ErrForm), ("speakeasy/api.ErrBig", Rows.laid_speakeasy_api_ErrBig), ("speakeasy/api.ErrMac", Rows.laid_speakeasy_api_ErrMac), ("speakeasy/api.ErrState", Rows.laid_speakeasy_api_ErrState), ("speakeasy/api.ErrFull", Rows.laid_speakeasy_api_ErrFull), ("speakeasy/api.ErrNone", Rows.laid_speakeasy_api_ErrNone), ("speakeasy/api.ErrHave", Rows.laid_speakeasy_api_ErrHave), ("speakeasy/api.ErrKey", Rows.laid_speakeasy_api_ErrKey), ("speakeasy/api.ErrSign", Rows.laid_speakeasy_api_ErrSign), ("speakeasy/api.ErrVersion", Rows.laid_speakeasy_api_ErrVersion), ("speakeasy/api.ErrAlgo", Rows.laid_speakeasy_api_ErrAlgo), ("speakeasy/api.ErrHost", Rows.laid_speakeasy_api_ErrHost), ("speakeasy/api.ErrAuth", Rows.laid_speakeasy_api_ErrAuth), ("speakeasy/api.ErrQuota", Rows.laid_speakeasy_api_ErrQuota), ("speakeasy/api.ErrName", Rows.laid_speakeasy_api_ErrName), ("speakeasy/api.ErrGone", Rows.laid_speakeasy_api_ErrGone), ("speakeasy/api.ErrWindow", Rows.laid_speakeasy_api_ErrWindow), ("speakeasy/api.ErrKind", Rows.laid_speakeasy_api_ErrKind), ("speakeasy/sha2.words", Rows.laid_speakeasy_sha2_words), ("speakeasy/sha2.first", Rows.laid_speakeasy_sha2_first), ("speakeasy/message.rows", Rows.laid_speakeasy_message_rows)] [.widerDeep, .data, .data, .data, .handle, .sentinel, .sentinel, .sentinel, .sentinel, .sentinel, .sentinel, .sentinel, .sentinel, .sentinel, .sentinel, .sentinel, .sentinel, .sentinel, .sentinel, .sentinel, .sentinel, .sentinel, .sentinel, .sentinel, .sentinel, .data, .data, .data] true :=
  Program.laidByTextLater_by_one 473 8 88 (by kernel_rfl) (by kernel_rfl) (by kernel_rfl) (by kernel_rfl) (by kernel_rfl) (by kernel_rfl) (fun _ _ => by kernel_rfl)
theorem pin_laid_unicode_utf8_first : Tryz.pinned.checked.prog.pinnedFits "unicode/utf8.first" = true := by kernel_rfl
theorem noOwnUnsafe : Tryz.pinned.checked.prog.headLifts.contains "ownunsafe" = false := by kernel_rfl
theorem fits1 : Tryz.pinned.checked.prog.listedFits [("speakeasy/chacha.begin", Rows.laid_speakeasy_chacha_begin), ("speakeasy/chacha.order", Rows.laid_speakeasy_chacha_order), ("speakeasy/scalar.order", Rows.laid_speakeasy_scalar_order), ("unicode/utf8.acceptRanges", Rows.laid_unicode_utf8_acceptRanges), ("errors.errorType", Rows.laid_errors_errorType), ("speakeasy/api.ErrArg", Rows.laid_speakeasy_api_ErrArg), ("speakeasy/api.ErrEnd", Rows.laid_speakeasy_api_ErrEnd), ("speakeasy/api.ErrForm", Rows.laid_speakeasy_api_ErrForm), ("speakeasy/api.ErrBig", Rows.laid_speakeasy_api_ErrBig), ("speakeasy/api.ErrMac", Rows.laid_speakeasy_api_ErrMac), ("speakeasy/api.ErrState", Rows.laid_speakeasy_api_ErrState), ("speakeasy/api.ErrFull", Rows.laid_speakeasy_api_ErrFull), ("speakeasy/api.ErrNone", Rows.laid_speakeasy_api_ErrNone), ("speakeasy/api.ErrHave", Rows.laid_speakeasy_api_ErrHave), ("speakeasy/api.ErrKey", Rows.laid_speakeasy_api_ErrKey), ("speakeasy/api.ErrSign", Rows.laid_speakeasy_api_ErrSign), ("speakeasy/api.ErrVersion", Rows.laid_speakeasy_api_ErrVersion), ("speakeasy/api.ErrAlgo", Rows.laid_speakeasy_api_ErrAlgo), ("speakeasy/api.ErrHost", Rows.laid_speakeasy_api_ErrHost), ("speakeasy/api.ErrAuth", Rows.laid_speakeasy_api_ErrAuth), ("speakeasy/api.ErrQuota", Rows.laid_speakeasy_api_ErrQuota), ("speakeasy/api.ErrName", Rows.laid_speakeasy_api_ErrName), ("speakeasy/api.ErrGone", Rows.laid_speakeasy_api_ErrGone), ("speakeasy/api.ErrWindow", Rows.laid_speakeasy_api_ErrWindow), ("speakeasy/api.ErrKind", Rows.laid_speakeasy_api_ErrKind), ("speakeasy/sha2.words", Rows.laid_speakeasy_sha2_words), ("speakeasy/sha2.first", Rows.laid_speakeasy_sha2_first), ("speakeasy/message.rows", Rows.laid_speakeasy_message_rows), ("unicode/utf8.first", Rows.laid_unicode_utf8_first)] = true := by
  unfold Program.listedFits
  rw [noOwnUnsafe]
  kernel_rfl
theorem tie : Tryz.prog.laidByTextLater [("speakeasy/chacha.begin", Rows.laid_speakeasy_chacha_begin), ("speakeasy/chacha.order", Rows.laid_speakeasy_chacha_order), ("speakeasy/scalar.order", Rows.laid_speakeasy_scalar_order), ("unicode/utf8.acceptRanges", Rows.laid_unicode_utf8_acceptRanges), ("errors.errorType", Rows.laid_errors_errorType), ("speakeasy/api.ErrArg", Rows.laid_speakeasy_api_ErrArg), ("speakeasy/api.ErrEnd", Rows.laid_speakeasy_api_ErrEnd), ("speakeasy/api.ErrForm", Rows.laid_speakeasy_api_ErrForm), ("speakeasy/api.ErrBig", Rows.laid_speakeasy_api_ErrBig), ("speakeasy/api.ErrMac", Rows.laid_speakeasy_api_ErrMac), ("speakeasy/api.ErrState", Rows.laid_speakeasy_api_ErrState), ("speakeasy/api.ErrFull", Rows.laid_speakeasy_api_ErrFull), ("speakeasy/api.ErrNone", Rows.laid_speakeasy_api_ErrNone), ("speakeasy/api.ErrHave", Rows.laid_speakeasy_api_ErrHave), ("speakeasy/api.ErrKey", Rows.laid_speakeasy_api_ErrKey), ("speakeasy/api.ErrSign", Rows.laid_speakeasy_api_ErrSign), ("speakeasy/api.ErrVersion", Rows.laid_speakeasy_api_ErrVersion), ("speakeasy/api.ErrAlgo", Rows.laid_speakeasy_api_ErrAlgo), ("speakeasy/api.ErrHost", Rows.laid_speakeasy_api_ErrHost), ("speakeasy/api.ErrAuth", Rows.laid_speakeasy_api_ErrAuth), ("speakeasy/api.ErrQuota", Rows.laid_speakeasy_api_ErrQuota), ("speakeasy/api.ErrName", Rows.laid_speakeasy_api_ErrName), ("speakeasy/api.ErrGone", Rows.laid_speakeasy_api_ErrGone), ("speakeasy/api.ErrWindow", Rows.laid_speakeasy_api_ErrWindow), ("speakeasy/api.ErrKind", Rows.laid_speakeasy_api_ErrKind), ("speakeasy/sha2.words", Rows.laid_speakeasy_sha2_words), ("speakeasy/sha2.first", Rows.laid_speakeasy_sha2_first), ("speakeasy/message.rows", Rows.laid_speakeasy_message_rows)] [.widerDeep, .data, .data, .data, .handle, .sentinel, .sentinel, .sentinel, .sentinel, .sentinel, .sentinel, .sentinel, .sentinel, .sentinel, .sentinel, .sentinel, .sentinel, .sentinel, .sentinel, .sentinel, .sentinel, .sentinel, .sentinel, .sentinel, .sentinel, .data, .data, .data] true :=
  Program.laidByTextLater.sub seatTie1 ["speakeasy/chacha.begin", "speakeasy/chacha.order", "speakeasy/scalar.order", "unicode/utf8.acceptRanges", "errors.errorType", "speakeasy/api.ErrArg", "speakeasy/api.ErrEnd", "speakeasy/api.ErrForm", "speakeasy/api.ErrBig", "speakeasy/api.ErrMac", "speakeasy/api.ErrState", "speakeasy/api.ErrFull", "speakeasy/api.ErrNone", "speakeasy/api.ErrHave", "speakeasy/api.ErrKey", "speakeasy/api.ErrSign", "speakeasy/api.ErrVersion", "speakeasy/api.ErrAlgo", "speakeasy/api.ErrHost", "speakeasy/api.ErrAuth", "speakeasy/api.ErrQuota", "speakeasy/api.ErrName", "speakeasy/api.ErrGone", "speakeasy/api.ErrWindow", "speakeasy/api.ErrKind", "speakeasy/sha2.words", "speakeasy/sha2.first", "speakeasy/message.rows"] (by kernel_rfl) (by kernel_rfl)
theorem sessionPins_row_tie : Rows.sessionPinsRow.laidByTextAt .later Tryz.pinned [.widerDeep, .data, .data, .data, .handle, .sentinel, .sentinel, .sentinel, .sentinel, .sentinel, .sentinel, .sentinel, .sentinel, .sentinel, .sentinel, .sentinel, .sentinel, .sentinel, .sentinel, .sentinel, .sentinel, .sentinel, .sentinel, .sentinel, .sentinel, .data, .data, .data, .pinned] true :=
  OpenClaim.laidByTextAt_pinned rfl rfl tie rfl rfl rfl rfl (fun y hy _e => by
    simp only [Rows.sessionPinsRow, List.zip_cons_cons, List.zip_nil_right, List.mem_cons, List.mem_nil_iff, or_false] at hy
    rcases hy with rfl | rfl | rfl | rfl | rfl | rfl | rfl | rfl | rfl | rfl | rfl | rfl | rfl | rfl | rfl | rfl | rfl | rfl | rfl | rfl | rfl | rfl | rfl | rfl | rfl | rfl | rfl | rfl | rfl
    · cases _e
    · cases _e
    · cases _e
    · cases _e
    · cases _e
    · cases _e
    · cases _e
    · cases _e
    · cases _e
    · cases _e
    · cases _e
    · cases _e
    · cases _e
    · cases _e
    · cases _e
    · cases _e
    · cases _e
    · cases _e
    · cases _e
    · cases _e
    · cases _e
    · cases _e
    · cases _e
    · cases _e
    · cases _e
    · cases _e
    · cases _e
    · cases _e
    · exact ⟨pin_laid_unicode_utf8_first, by kernel_rfl⟩) fits1
theorem sessionPinsUpto_row_tie : Rows.sessionPinsUptoRow.laidByTextAt .later Tryz.pinned [.widerDeep, .data, .data, .data, .handle, .sentinel, .sentinel, .sentinel, .sentinel, .sentinel, .sentinel, .sentinel, .sentinel, .sentinel, .sentinel, .sentinel, .sentinel, .sentinel, .sentinel, .sentinel, .sentinel, .sentinel, .sentinel, .sentinel, .sentinel, .data, .data, .data, .pinned] true :=
  OpenClaim.laidByTextAt_pinned rfl rfl tie rfl rfl rfl rfl (fun y hy _e => by
    simp only [Rows.sessionPinsUptoRow, List.zip_cons_cons, List.zip_nil_right, List.mem_cons, List.mem_nil_iff, or_false] at hy
    rcases hy with rfl | rfl | rfl | rfl | rfl | rfl | rfl | rfl | rfl | rfl | rfl | rfl | rfl | rfl | rfl | rfl | rfl | rfl | rfl | rfl | rfl | rfl | rfl | rfl | rfl | rfl | rfl | rfl | rfl
    · cases _e
    · cases _e
    · cases _e
    · cases _e
    · cases _e
    · cases _e
    · cases _e
    · cases _e
    · cases _e
    · cases _e
    · cases _e
    · cases _e
    · cases _e
    · cases _e
    · cases _e
    · cases _e
    · cases _e
    · cases _e
    · cases _e
    · cases _e
    · cases _e
    · cases _e
    · cases _e
    · cases _e
    · cases _e
    · cases _e
    · cases _e
    · cases _e
    · exact ⟨pin_laid_unicode_utf8_first, by kernel_rfl⟩) fits1
end Go.Proofs.YtcjcibnggioknaaGreatDoor
