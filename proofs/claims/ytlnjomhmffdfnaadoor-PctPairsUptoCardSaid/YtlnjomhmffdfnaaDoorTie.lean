/-
  DERIVED. GIVEN WITH THE SEED: THE PROGRAM's TIES (one call each: nine closed facts by the kernel) AND EACH ROW's TIE, after the 31st guide's Derived/Test/Toyas{Tie, Card}.lean. No idea stands in it: it is a product of the set-up. Laid BY PROGRAM, IN A SANDBOX (cutbox-door.mjs). By AI agents, Wed Nov 11 2026. No macro, syntax, notation, axiom, sorry.
-/
import Derived.Test.YtlnjomhmffdfnaaDoorRows
import Derived.LaidByTextLater
import Derived.SevenTiedAt
import Derived.LaidSub
import Derived.LaidOnce
namespace Go.Proofs.YtlnjomhmffdfnaaDoor
open Go
set_option maxRecDepth 100000
theorem seatTie1 : Tryd.prog.laidByTextLater [("unicode/utf8.acceptRanges", Rows.laid_unicode_utf8_acceptRanges), ("usher/api.ErrArg", Rows.laid_usher_api_ErrArg), ("usher/api.ErrText", Rows.laid_usher_api_ErrText), ("usher/api.ErrMany", Rows.laid_usher_api_ErrMany), ("usher/api.ErrTwice", Rows.laid_usher_api_ErrTwice), ("usher/api.ErrScheme", Rows.laid_usher_api_ErrScheme), ("usher/api.ErrShort", Rows.laid_usher_api_ErrShort), ("usher/api.ErrDry", Rows.laid_usher_api_ErrDry), ("usher/api.ErrTaken", Rows.laid_usher_api_ErrTaken), ("usher/api.ErrFull", Rows.laid_usher_api_ErrFull), ("usher/api.ErrDead", Rows.laid_usher_api_ErrDead), ("usher/api.ErrLog", Rows.laid_usher_api_ErrLog), ("usher/api.ErrLost", Rows.laid_usher_api_ErrLost), ("usher/api.ErrDenied", Rows.laid_usher_api_ErrDenied), ("usher/pct.unreserved", Rows.laid_usher_pct_unreserved)] [.data, .sentinel, .sentinel, .sentinel, .sentinel, .sentinel, .sentinel, .sentinel, .sentinel, .sentinel, .sentinel, .sentinel, .sentinel, .sentinel, .data] true :=
  Program.laidByTextLater_by_one 271 8 33 (by kernel_rfl) (by kernel_rfl) (by kernel_rfl) (by kernel_rfl) (by kernel_rfl) (by kernel_rfl) (fun _ _ => by kernel_rfl)
theorem pin_laid_unicode_utf8_first : Tryd.pinned.checked.prog.pinnedFits "unicode/utf8.first" = true := by kernel_rfl
theorem noOwnUnsafe : Tryd.pinned.checked.prog.headLifts.contains "ownunsafe" = false := by kernel_rfl
theorem tie : Tryd.prog.laidByTextLater [("usher/pct.unreserved", Rows.laid_usher_pct_unreserved)] [.data] true :=
  Program.laidByTextLater.sub seatTie1 ["usher/pct.unreserved"] (by kernel_rfl) (by kernel_rfl)
theorem pctEscapes_row_tie : Rows.pctEscapesRow.laidByTextAt .later Tryd.pinned [.data] true :=
  OpenClaim.laidByTextAt_later rfl rfl tie noOwnUnsafe
theorem pctShape_row_tie : Rows.pctShapeRow.laidByTextAt .later Tryd.pinned [.data] true :=
  OpenClaim.laidByTextAt_later rfl rfl tie noOwnUnsafe
theorem pctForms_row_tie : Rows.pctFormsRow.laidByTextAt .later Tryd.pinned [.data] true :=
  OpenClaim.laidByTextAt_later rfl rfl tie noOwnUnsafe
theorem tie2 : Tryd.prog.laidByTextLater [("usher/api.ErrArg", Rows.laid_usher_api_ErrArg), ("usher/api.ErrText", Rows.laid_usher_api_ErrText), ("usher/api.ErrMany", Rows.laid_usher_api_ErrMany), ("usher/api.ErrTwice", Rows.laid_usher_api_ErrTwice), ("usher/api.ErrScheme", Rows.laid_usher_api_ErrScheme), ("usher/api.ErrShort", Rows.laid_usher_api_ErrShort), ("usher/api.ErrDry", Rows.laid_usher_api_ErrDry), ("usher/api.ErrTaken", Rows.laid_usher_api_ErrTaken), ("usher/api.ErrFull", Rows.laid_usher_api_ErrFull), ("usher/api.ErrDead", Rows.laid_usher_api_ErrDead), ("usher/api.ErrLog", Rows.laid_usher_api_ErrLog), ("usher/api.ErrLost", Rows.laid_usher_api_ErrLost), ("usher/api.ErrDenied", Rows.laid_usher_api_ErrDenied)] [.sentinel, .sentinel, .sentinel, .sentinel, .sentinel, .sentinel, .sentinel, .sentinel, .sentinel, .sentinel, .sentinel, .sentinel, .sentinel] true :=
  Program.laidByTextLater.sub seatTie1 ["usher/api.ErrArg", "usher/api.ErrText", "usher/api.ErrMany", "usher/api.ErrTwice", "usher/api.ErrScheme", "usher/api.ErrShort", "usher/api.ErrDry", "usher/api.ErrTaken", "usher/api.ErrFull", "usher/api.ErrDead", "usher/api.ErrLog", "usher/api.ErrLost", "usher/api.ErrDenied"] (by kernel_rfl) (by kernel_rfl)
theorem pctUnescapes_row_tie : Rows.pctUnescapesRow.laidByTextAt .later Tryd.pinned [.sentinel, .sentinel, .sentinel, .sentinel, .sentinel, .sentinel, .sentinel, .sentinel, .sentinel, .sentinel, .sentinel, .sentinel, .sentinel] true :=
  OpenClaim.laidByTextAt_later rfl rfl tie2 noOwnUnsafe
theorem pctCase_row_tie : Rows.pctCaseRow.laidByTextAt .later Tryd.pinned [.sentinel, .sentinel, .sentinel, .sentinel, .sentinel, .sentinel, .sentinel, .sentinel, .sentinel, .sentinel, .sentinel, .sentinel, .sentinel] true :=
  OpenClaim.laidByTextAt_later rfl rfl tie2 noOwnUnsafe
theorem tie3 : Tryd.prog.laidByTextLater [("usher/api.ErrText", Rows.laid_usher_api_ErrText)] [.sentinel] true :=
  Program.laidByTextLater.sub seatTie1 ["usher/api.ErrText"] (by kernel_rfl) (by kernel_rfl)
theorem pctRefuses_row_tie : Rows.pctRefusesRow.laidByTextAt .later Tryd.pinned [.sentinel] true :=
  OpenClaim.laidByTextAt_later rfl rfl tie3 noOwnUnsafe
theorem tie4 : Tryd.prog.laidByTextLater [("usher/api.ErrText", Rows.laid_usher_api_ErrText), ("usher/pct.unreserved", Rows.laid_usher_pct_unreserved)] [.sentinel, .data] true :=
  Program.laidByTextLater.sub seatTie1 ["usher/api.ErrText", "usher/pct.unreserved"] (by kernel_rfl) (by kernel_rfl)
theorem pctBack_row_tie : Rows.pctBackRow.laidByTextAt .later Tryd.pinned [.sentinel, .data] true :=
  OpenClaim.laidByTextAt_later rfl rfl tie4 noOwnUnsafe
theorem fits5 : Tryd.pinned.checked.prog.listedFits [("unicode/utf8.acceptRanges", Rows.laid_unicode_utf8_acceptRanges), ("usher/api.ErrArg", Rows.laid_usher_api_ErrArg), ("usher/api.ErrText", Rows.laid_usher_api_ErrText), ("usher/api.ErrMany", Rows.laid_usher_api_ErrMany), ("usher/api.ErrTwice", Rows.laid_usher_api_ErrTwice), ("usher/api.ErrScheme", Rows.laid_usher_api_ErrScheme), ("usher/api.ErrShort", Rows.laid_usher_api_ErrShort), ("usher/api.ErrDry", Rows.laid_usher_api_ErrDry), ("usher/api.ErrTaken", Rows.laid_usher_api_ErrTaken), ("usher/api.ErrFull", Rows.laid_usher_api_ErrFull), ("usher/api.ErrDead", Rows.laid_usher_api_ErrDead), ("usher/api.ErrLog", Rows.laid_usher_api_ErrLog), ("usher/api.ErrLost", Rows.laid_usher_api_ErrLost), ("usher/api.ErrDenied", Rows.laid_usher_api_ErrDenied), ("unicode/utf8.first", Rows.laid_unicode_utf8_first)] = true := by
  unfold Program.listedFits
  rw [noOwnUnsafe]
  kernel_rfl
theorem tie5 : Tryd.prog.laidByTextLater [("unicode/utf8.acceptRanges", Rows.laid_unicode_utf8_acceptRanges), ("usher/api.ErrArg", Rows.laid_usher_api_ErrArg), ("usher/api.ErrText", Rows.laid_usher_api_ErrText), ("usher/api.ErrMany", Rows.laid_usher_api_ErrMany), ("usher/api.ErrTwice", Rows.laid_usher_api_ErrTwice), ("usher/api.ErrScheme", Rows.laid_usher_api_ErrScheme), ("usher/api.ErrShort", Rows.laid_usher_api_ErrShort), ("usher/api.ErrDry", Rows.laid_usher_api_ErrDry), ("usher/api.ErrTaken", Rows.laid_usher_api_ErrTaken), ("usher/api.ErrFull", Rows.laid_usher_api_ErrFull), ("usher/api.ErrDead", Rows.laid_usher_api_ErrDead), ("usher/api.ErrLog", Rows.laid_usher_api_ErrLog), ("usher/api.ErrLost", Rows.laid_usher_api_ErrLost), ("usher/api.ErrDenied", Rows.laid_usher_api_ErrDenied)] [.data, .sentinel, .sentinel, .sentinel, .sentinel, .sentinel, .sentinel, .sentinel, .sentinel, .sentinel, .sentinel, .sentinel, .sentinel, .sentinel] true :=
  Program.laidByTextLater.sub seatTie1 ["unicode/utf8.acceptRanges", "usher/api.ErrArg", "usher/api.ErrText", "usher/api.ErrMany", "usher/api.ErrTwice", "usher/api.ErrScheme", "usher/api.ErrShort", "usher/api.ErrDry", "usher/api.ErrTaken", "usher/api.ErrFull", "usher/api.ErrDead", "usher/api.ErrLog", "usher/api.ErrLost", "usher/api.ErrDenied"] (by kernel_rfl) (by kernel_rfl)
theorem pctPairs_row_tie : Rows.pctPairsRow.laidByTextAt .later Tryd.pinned [.data, .sentinel, .sentinel, .sentinel, .sentinel, .sentinel, .sentinel, .sentinel, .sentinel, .sentinel, .sentinel, .sentinel, .sentinel, .sentinel, .pinned] true :=
  OpenClaim.laidByTextAt_pinned rfl rfl tie5 rfl rfl rfl rfl (fun y hy _e => by
    simp only [Rows.pctPairsRow, List.zip_cons_cons, List.zip_nil_right, List.mem_cons, List.mem_nil_iff, or_false] at hy
    rcases hy with rfl | rfl | rfl | rfl | rfl | rfl | rfl | rfl | rfl | rfl | rfl | rfl | rfl | rfl | rfl
    · cases _e
    · cases _e
    · cases _e
    · cases _e
    · cases _e
    · cases _e
    · cases _e
    · cases _e
    · cases _e
    · cases _e
    · cases _e
    · cases _e
    · cases _e
    · cases _e
    · exact ⟨pin_laid_unicode_utf8_first, by kernel_rfl⟩) fits5
theorem fits6 : Tryd.pinned.checked.prog.listedFits [("unicode/utf8.acceptRanges", Rows.laid_unicode_utf8_acceptRanges), ("usher/api.ErrText", Rows.laid_usher_api_ErrText), ("usher/api.ErrMany", Rows.laid_usher_api_ErrMany), ("unicode/utf8.first", Rows.laid_unicode_utf8_first)] = true := by
  unfold Program.listedFits
  rw [noOwnUnsafe]
  kernel_rfl
theorem tie6 : Tryd.prog.laidByTextLater [("unicode/utf8.acceptRanges", Rows.laid_unicode_utf8_acceptRanges), ("usher/api.ErrText", Rows.laid_usher_api_ErrText), ("usher/api.ErrMany", Rows.laid_usher_api_ErrMany)] [.data, .sentinel, .sentinel] true :=
  Program.laidByTextLater.sub seatTie1 ["unicode/utf8.acceptRanges", "usher/api.ErrText", "usher/api.ErrMany"] (by kernel_rfl) (by kernel_rfl)
theorem pctJoin_row_tie : Rows.pctJoinRow.laidByTextAt .later Tryd.pinned [.data, .sentinel, .sentinel, .pinned] true :=
  OpenClaim.laidByTextAt_pinned rfl rfl tie6 rfl rfl rfl rfl (fun y hy _e => by
    simp only [Rows.pctJoinRow, List.zip_cons_cons, List.zip_nil_right, List.mem_cons, List.mem_nil_iff, or_false] at hy
    rcases hy with rfl | rfl | rfl | rfl
    · cases _e
    · cases _e
    · cases _e
    · exact ⟨pin_laid_unicode_utf8_first, by kernel_rfl⟩) fits6
theorem fits7 : Tryd.pinned.checked.prog.listedFits [("unicode/utf8.acceptRanges", Rows.laid_unicode_utf8_acceptRanges), ("usher/api.ErrText", Rows.laid_usher_api_ErrText), ("usher/api.ErrMany", Rows.laid_usher_api_ErrMany), ("usher/pct.unreserved", Rows.laid_usher_pct_unreserved), ("unicode/utf8.first", Rows.laid_unicode_utf8_first)] = true := by
  unfold Program.listedFits
  rw [noOwnUnsafe]
  kernel_rfl
theorem tie7 : Tryd.prog.laidByTextLater [("unicode/utf8.acceptRanges", Rows.laid_unicode_utf8_acceptRanges), ("usher/api.ErrText", Rows.laid_usher_api_ErrText), ("usher/api.ErrMany", Rows.laid_usher_api_ErrMany), ("usher/pct.unreserved", Rows.laid_usher_pct_unreserved)] [.data, .sentinel, .sentinel, .data] true :=
  Program.laidByTextLater.sub seatTie1 ["unicode/utf8.acceptRanges", "usher/api.ErrText", "usher/api.ErrMany", "usher/pct.unreserved"] (by kernel_rfl) (by kernel_rfl)
theorem pctFormBack_row_tie : Rows.pctFormBackRow.laidByTextAt .later Tryd.pinned [.data, .sentinel, .sentinel, .data, .pinned] true :=
  OpenClaim.laidByTextAt_pinned rfl rfl tie7 rfl rfl rfl rfl (fun y hy _e => by
    simp only [Rows.pctFormBackRow, List.zip_cons_cons, List.zip_nil_right, List.mem_cons, List.mem_nil_iff, or_false] at hy
    rcases hy with rfl | rfl | rfl | rfl | rfl
    · cases _e
    · cases _e
    · cases _e
    · cases _e
    · exact ⟨pin_laid_unicode_utf8_first, by kernel_rfl⟩) fits7
theorem pctOnce_row_tie : Rows.pctOnceRow.laidByTextAt .later Tryd.pinned [.data, .sentinel, .sentinel, .data, .pinned] true :=
  OpenClaim.laidByTextAt_pinned rfl rfl tie7 rfl rfl rfl rfl (fun y hy _e => by
    simp only [Rows.pctOnceRow, List.zip_cons_cons, List.zip_nil_right, List.mem_cons, List.mem_nil_iff, or_false] at hy
    rcases hy with rfl | rfl | rfl | rfl | rfl
    · cases _e
    · cases _e
    · cases _e
    · cases _e
    · exact ⟨pin_laid_unicode_utf8_first, by kernel_rfl⟩) fits7
theorem pctEscapesUpto_row_tie : Rows.pctEscapesUptoRow.laidByTextAt .later Tryd.pinned [.data] true :=
  OpenClaim.laidByTextAt_later rfl rfl tie noOwnUnsafe
theorem pctUnescapesUpto_row_tie : Rows.pctUnescapesUptoRow.laidByTextAt .later Tryd.pinned [.sentinel, .sentinel, .sentinel, .sentinel, .sentinel, .sentinel, .sentinel, .sentinel, .sentinel, .sentinel, .sentinel, .sentinel, .sentinel] true :=
  OpenClaim.laidByTextAt_later rfl rfl tie2 noOwnUnsafe
theorem pctShapeUpto_row_tie : Rows.pctShapeUptoRow.laidByTextAt .later Tryd.pinned [.data] true :=
  OpenClaim.laidByTextAt_later rfl rfl tie noOwnUnsafe
theorem pctRefusesUpto_row_tie : Rows.pctRefusesUptoRow.laidByTextAt .later Tryd.pinned [.sentinel] true :=
  OpenClaim.laidByTextAt_later rfl rfl tie3 noOwnUnsafe
theorem pctCaseUpto_row_tie : Rows.pctCaseUptoRow.laidByTextAt .later Tryd.pinned [.sentinel, .sentinel, .sentinel, .sentinel, .sentinel, .sentinel, .sentinel, .sentinel, .sentinel, .sentinel, .sentinel, .sentinel, .sentinel] true :=
  OpenClaim.laidByTextAt_later rfl rfl tie2 noOwnUnsafe
theorem pctFormsUpto_row_tie : Rows.pctFormsUptoRow.laidByTextAt .later Tryd.pinned [.data] true :=
  OpenClaim.laidByTextAt_later rfl rfl tie noOwnUnsafe
theorem pctBackUpto_row_tie : Rows.pctBackUptoRow.laidByTextAt .later Tryd.pinned [.sentinel, .data] true :=
  OpenClaim.laidByTextAt_later rfl rfl tie4 noOwnUnsafe
theorem pctPairsUpto_row_tie : Rows.pctPairsUptoRow.laidByTextAt .later Tryd.pinned [.data, .sentinel, .sentinel, .sentinel, .sentinel, .sentinel, .sentinel, .sentinel, .sentinel, .sentinel, .sentinel, .sentinel, .sentinel, .sentinel, .pinned] true :=
  OpenClaim.laidByTextAt_pinned rfl rfl tie5 rfl rfl rfl rfl (fun y hy _e => by
    simp only [Rows.pctPairsUptoRow, List.zip_cons_cons, List.zip_nil_right, List.mem_cons, List.mem_nil_iff, or_false] at hy
    rcases hy with rfl | rfl | rfl | rfl | rfl | rfl | rfl | rfl | rfl | rfl | rfl | rfl | rfl | rfl | rfl
    · cases _e
    · cases _e
    · cases _e
    · cases _e
    · cases _e
    · cases _e
    · cases _e
    · cases _e
    · cases _e
    · cases _e
    · cases _e
    · cases _e
    · cases _e
    · cases _e
    · exact ⟨pin_laid_unicode_utf8_first, by kernel_rfl⟩) fits5
theorem pctJoinUpto_row_tie : Rows.pctJoinUptoRow.laidByTextAt .later Tryd.pinned [.data, .sentinel, .sentinel, .pinned] true :=
  OpenClaim.laidByTextAt_pinned rfl rfl tie6 rfl rfl rfl rfl (fun y hy _e => by
    simp only [Rows.pctJoinUptoRow, List.zip_cons_cons, List.zip_nil_right, List.mem_cons, List.mem_nil_iff, or_false] at hy
    rcases hy with rfl | rfl | rfl | rfl
    · cases _e
    · cases _e
    · cases _e
    · exact ⟨pin_laid_unicode_utf8_first, by kernel_rfl⟩) fits6
theorem pctFormBackUpto_row_tie : Rows.pctFormBackUptoRow.laidByTextAt .later Tryd.pinned [.data, .sentinel, .sentinel, .data, .pinned] true :=
  OpenClaim.laidByTextAt_pinned rfl rfl tie7 rfl rfl rfl rfl (fun y hy _e => by
    simp only [Rows.pctFormBackUptoRow, List.zip_cons_cons, List.zip_nil_right, List.mem_cons, List.mem_nil_iff, or_false] at hy
    rcases hy with rfl | rfl | rfl | rfl | rfl
    · cases _e
    · cases _e
    · cases _e
    · cases _e
    · exact ⟨pin_laid_unicode_utf8_first, by kernel_rfl⟩) fits7
theorem pctOnceUpto_row_tie : Rows.pctOnceUptoRow.laidByTextAt .later Tryd.pinned [.data, .sentinel, .sentinel, .data, .pinned] true :=
  OpenClaim.laidByTextAt_pinned rfl rfl tie7 rfl rfl rfl rfl (fun y hy _e => by
    simp only [Rows.pctOnceUptoRow, List.zip_cons_cons, List.zip_nil_right, List.mem_cons, List.mem_nil_iff, or_false] at hy
    rcases hy with rfl | rfl | rfl | rfl | rfl
    · cases _e
    · cases _e
    · cases _e
    · cases _e
    · exact ⟨pin_laid_unicode_utf8_first, by kernel_rfl⟩) fits7
end Go.Proofs.YtlnjomhmffdfnaaDoor
