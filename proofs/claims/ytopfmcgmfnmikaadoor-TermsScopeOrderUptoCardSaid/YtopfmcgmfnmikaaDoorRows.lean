/-
  NARROWER THAN 'FOR EVERY INPUT', by the rows' own cells (each row's printed sentence says how): TermsRedirects: laid · TermsRedirectSafe: laid · TermsAnswers: laid · TermsAnswerIn: laid · TermsAnswerBack: laid · TermsScopes: laid · TermsScopeOrder: laid · TermsScopeBack: laid.
  DERIVED. THE GIVEN ROWS OF THIS SEAT. 8 by the template 'for every input the law returns true; each argument reads behind the call as it read before'; 0 by the template 'total and deterministic' (their statements: YtopfmcgmfnmikaaDoorTotals.lean).
  GIVEN WITH THE SEED: the statements are not yours to turn. If you find one false, say at which input.
  Laid BY PROGRAM, IN A SANDBOX (cutbox-rows.mjs): the forced cells as the released guide's own fill.sh prints them over the translation 9e65b418355cfb65… (all of the seat's roots in one cut). By AI agents, Wed Nov 11 2026. No macro, syntax, notation, axiom, sorry.
-/
import Derived.Test.YtopfmcgmfnmikaaDoorChecked
import GoSem.PinnedTables
import GoSem.Claim
import GoSem.ClaimJoined
import GoSem.ClaimMapViews
import Derived.JoinedTies
import Derived.KernelRfl
namespace Go.Proofs.YtopfmcgmfnmikaaDoor
/- THE CELL 'sum', in the pinned program and in every row, IS THE sha256 OF THE DUMP (.gsa) THAT YtopfmcgmfnmikaaDoorProg.lean LOADS. Nothing in Lean hashes anything: it is a label: what it is worth is what the hold of that sum in a sandbox is worth. -/
noncomputable def Tryd.pinned : Pinned := { name := "ytopfmcgmfnmikaadoor", sum := "9e65b418355cfb65bce93bc390e695e9d9319ea6b37012880fbba143f98cc918", checked := Tryd.checked }
namespace Rows
def none {H : Type} : Left H := { results := [], args := [] }

/- WHAT THE LISTED PACKAGE-LEVEL VARIABLES READ AS WHEN THE CALL BEGINS. Each datum BY PROGRAM (the guide's laid-datum.mjs) off the statement by which the dump's own 'gosem.cut.vars' lays the variable. In a bare row this is a premise. The card (YtopfmcgmfnmikaaDoorCards.lean) ties it to the program's text. -/
def laid_unicode_utf8_acceptRanges {H : Type} : DataW H := .agg [.agg [.lit (.int .u8 128), .lit (.int .u8 191)], .agg [.lit (.int .u8 160), .lit (.int .u8 191)], .agg [.lit (.int .u8 128), .lit (.int .u8 159)], .agg [.lit (.int .u8 144), .lit (.int .u8 191)], .agg [.lit (.int .u8 128), .lit (.int .u8 143)], .agg [.lit (.int .u8 0), .lit (.int .u8 0)], .agg [.lit (.int .u8 0), .lit (.int .u8 0)], .agg [.lit (.int .u8 0), .lit (.int .u8 0)], .agg [.lit (.int .u8 0), .lit (.int .u8 0)], .agg [.lit (.int .u8 0), .lit (.int .u8 0)], .agg [.lit (.int .u8 0), .lit (.int .u8 0)], .agg [.lit (.int .u8 0), .lit (.int .u8 0)], .agg [.lit (.int .u8 0), .lit (.int .u8 0)], .agg [.lit (.int .u8 0), .lit (.int .u8 0)], .agg [.lit (.int .u8 0), .lit (.int .u8 0)], .agg [.lit (.int .u8 0), .lit (.int .u8 0)]]
def laid_usher_terms_heads {H : Type} : DataW H := .agg [.lit (.string [104, 116, 116, 112, 115, 58, 47, 47]), .lit (.string [104, 116, 116, 112, 58, 47, 47])]
/-- One of Go's own tables, pinned by name: the form's constant. -/
def laid_unicode_utf8_first : DataW Unit := Go.Pinned.utf8First
def laid_usher_api_ErrArg {H : Type} : DataW H := .iface "*errors.errorString" (.ptr (.agg [.lit (.string [97, 114, 103, 117, 109, 101, 110, 116])]))
def laid_usher_api_ErrText {H : Type} : DataW H := .iface "*errors.errorString" (.ptr (.agg [.lit (.string [116, 101, 120, 116])]))
def laid_usher_api_ErrMany {H : Type} : DataW H := .iface "*errors.errorString" (.ptr (.agg [.lit (.string [109, 97, 110, 121])]))
def laid_usher_api_ErrTwice {H : Type} : DataW H := .iface "*errors.errorString" (.ptr (.agg [.lit (.string [116, 119, 105, 99, 101])]))
def laid_usher_api_ErrScheme {H : Type} : DataW H := .iface "*errors.errorString" (.ptr (.agg [.lit (.string [115, 99, 104, 101, 109, 101])]))
def laid_usher_api_ErrShort {H : Type} : DataW H := .iface "*errors.errorString" (.ptr (.agg [.lit (.string [115, 104, 111, 114, 116])]))
def laid_usher_api_ErrDry {H : Type} : DataW H := .iface "*errors.errorString" (.ptr (.agg [.lit (.string [100, 114, 121])]))
def laid_usher_api_ErrTaken {H : Type} : DataW H := .iface "*errors.errorString" (.ptr (.agg [.lit (.string [116, 97, 107, 101, 110])]))
def laid_usher_api_ErrFull {H : Type} : DataW H := .iface "*errors.errorString" (.ptr (.agg [.lit (.string [102, 117, 108, 108])]))
def laid_usher_api_ErrDead {H : Type} : DataW H := .iface "*errors.errorString" (.ptr (.agg [.lit (.string [100, 101, 97, 100])]))
def laid_usher_api_ErrLog {H : Type} : DataW H := .iface "*errors.errorString" (.ptr (.agg [.lit (.string [108, 111, 103])]))
def laid_usher_api_ErrLost {H : Type} : DataW H := .iface "*errors.errorString" (.ptr (.agg [.lit (.string [108, 111, 115, 116])]))
def laid_usher_api_ErrDenied {H : Type} : DataW H := .iface "*errors.errorString" (.ptr (.agg [.lit (.string [100, 101, 110, 105, 101, 100])]))
def laid_usher_pct_unreserved {H : Type} : DataW H := .agg [.lit (.int .u32 0), .lit (.int .u32 67067904), .lit (.int .u32 2281701374), .lit (.int .u32 1207959550)]

/-- 'usherlaw9.TermsRedirects': WHATEVER THE INPUT: true; the input reads as it did. -/
def termsRedirectsSpec : ChangeSpec := { name := "termsRedirects", fn := fun _ => fun
  | [d] => { results := [.lit (.bool true)], args := [d] }
  | _ => none }
def termsRedirectsRow : OpenClaim := { program := "ytopfmcgmfnmikaadoor", sum := "9e65b418355cfb65bce93bc390e695e9d9319ea6b37012880fbba143f98cc918", func := "usher/usherlaw9.TermsRedirects", spec := "termsRedirects", inPlace := ["internal/bytealg.IndexByteString", "internal/bytealg.IndexString", "internal/bytealg.CountString"], unfollowed := true, recurses := true, named := ["usher/terms.heads", "unicode/utf8.first", "unicode/utf8.acceptRanges", "internal/bytealg.MaxLen"], apart := false, laid := [("unicode/utf8.acceptRanges", laid_unicode_utf8_acceptRanges), ("usher/terms.heads", laid_usher_terms_heads), ("unicode/utf8.first", laid_unicode_utf8_first)] }
def TermsRedirectsSaid : Prop := termsRedirectsRow.holds Tryd.pinned (OpenSpec.ofChange termsRedirectsSpec)

/-- ITS FALSE NEIGHBOUR: 'it returns false'. Refute it at one input. -/
def termsRedirectsWrong : ChangeSpec := { name := "termsRedirects", fn := fun _ => fun
  | [d] => { results := [.lit (.bool false)], args := [d] }
  | _ => none }
def TermsRedirectsWrongFalsely : Prop := termsRedirectsRow.holds Tryd.pinned (OpenSpec.ofChange termsRedirectsWrong)

/-- 'usherlaw9.TermsRedirectSafe': WHATEVER THE INPUT: true; the input reads as it did. -/
def termsRedirectSafeSpec : ChangeSpec := { name := "termsRedirectSafe", fn := fun _ => fun
  | [d] => { results := [.lit (.bool true)], args := [d] }
  | _ => none }
def termsRedirectSafeRow : OpenClaim := { program := "ytopfmcgmfnmikaadoor", sum := "9e65b418355cfb65bce93bc390e695e9d9319ea6b37012880fbba143f98cc918", func := "usher/usherlaw9.TermsRedirectSafe", spec := "termsRedirectSafe", inPlace := ["internal/bytealg.IndexByteString", "internal/bytealg.IndexString", "internal/bytealg.CountString"], unfollowed := true, recurses := true, named := ["usher/terms.heads", "unicode/utf8.first", "unicode/utf8.acceptRanges", "internal/bytealg.MaxLen"], apart := false, laid := [("unicode/utf8.acceptRanges", laid_unicode_utf8_acceptRanges), ("usher/terms.heads", laid_usher_terms_heads), ("unicode/utf8.first", laid_unicode_utf8_first)] }
def TermsRedirectSafeSaid : Prop := termsRedirectSafeRow.holds Tryd.pinned (OpenSpec.ofChange termsRedirectSafeSpec)

/-- ITS FALSE NEIGHBOUR: 'it returns false'. Refute it at one input. -/
def termsRedirectSafeWrong : ChangeSpec := { name := "termsRedirectSafe", fn := fun _ => fun
  | [d] => { results := [.lit (.bool false)], args := [d] }
  | _ => none }
def TermsRedirectSafeWrongFalsely : Prop := termsRedirectSafeRow.holds Tryd.pinned (OpenSpec.ofChange termsRedirectSafeWrong)

/-- 'usherlaw9.TermsAnswers': WHATEVER THE INPUT: true; the input reads as it did. -/
def termsAnswersSpec : ChangeSpec := { name := "termsAnswers", fn := fun _ => fun
  | [d] => { results := [.lit (.bool true)], args := [d] }
  | _ => none }
def termsAnswersRow : OpenClaim := { program := "ytopfmcgmfnmikaadoor", sum := "9e65b418355cfb65bce93bc390e695e9d9319ea6b37012880fbba143f98cc918", func := "usher/usherlaw9.TermsAnswers", spec := "termsAnswers", inPlace := ["internal/bytealg.IndexByteString", "internal/bytealg.IndexString", "internal/bytealg.CountString", "internal/abi.NoEscape"], unfollowed := true, recurses := true, named := ["usher/api.ErrText", "usher/api.ErrMany", "usher/terms.heads", "unicode/utf8.first", "unicode/utf8.acceptRanges", "internal/bytealg.MaxLen", "usher/pct.unreserved", "usher/api.ErrArg", "usher/api.ErrTwice", "usher/api.ErrScheme", "usher/api.ErrShort", "usher/api.ErrDry", "usher/api.ErrTaken", "usher/api.ErrFull", "usher/api.ErrDead", "usher/api.ErrLog", "usher/api.ErrLost", "usher/api.ErrDenied"], apart := false, laid := [("unicode/utf8.acceptRanges", laid_unicode_utf8_acceptRanges), ("usher/api.ErrArg", laid_usher_api_ErrArg), ("usher/api.ErrText", laid_usher_api_ErrText), ("usher/api.ErrMany", laid_usher_api_ErrMany), ("usher/api.ErrTwice", laid_usher_api_ErrTwice), ("usher/api.ErrScheme", laid_usher_api_ErrScheme), ("usher/api.ErrShort", laid_usher_api_ErrShort), ("usher/api.ErrDry", laid_usher_api_ErrDry), ("usher/api.ErrTaken", laid_usher_api_ErrTaken), ("usher/api.ErrFull", laid_usher_api_ErrFull), ("usher/api.ErrDead", laid_usher_api_ErrDead), ("usher/api.ErrLog", laid_usher_api_ErrLog), ("usher/api.ErrLost", laid_usher_api_ErrLost), ("usher/api.ErrDenied", laid_usher_api_ErrDenied), ("usher/pct.unreserved", laid_usher_pct_unreserved), ("usher/terms.heads", laid_usher_terms_heads), ("unicode/utf8.first", laid_unicode_utf8_first)] }
def TermsAnswersSaid : Prop := termsAnswersRow.holds Tryd.pinned (OpenSpec.ofChange termsAnswersSpec)

/-- ITS FALSE NEIGHBOUR: 'it returns false'. Refute it at one input. -/
def termsAnswersWrong : ChangeSpec := { name := "termsAnswers", fn := fun _ => fun
  | [d] => { results := [.lit (.bool false)], args := [d] }
  | _ => none }
def TermsAnswersWrongFalsely : Prop := termsAnswersRow.holds Tryd.pinned (OpenSpec.ofChange termsAnswersWrong)

/-- 'usherlaw9.TermsAnswerIn': WHATEVER THE INPUT: true; the input reads as it did. -/
def termsAnswerInSpec : ChangeSpec := { name := "termsAnswerIn", fn := fun _ => fun
  | [d] => { results := [.lit (.bool true)], args := [d] }
  | _ => none }
def termsAnswerInRow : OpenClaim := { program := "ytopfmcgmfnmikaadoor", sum := "9e65b418355cfb65bce93bc390e695e9d9319ea6b37012880fbba143f98cc918", func := "usher/usherlaw9.TermsAnswerIn", spec := "termsAnswerIn", inPlace := ["internal/bytealg.IndexByteString", "internal/bytealg.IndexString", "internal/bytealg.CountString", "internal/abi.NoEscape"], unfollowed := true, recurses := true, named := ["usher/api.ErrText", "usher/api.ErrMany", "usher/terms.heads", "unicode/utf8.first", "unicode/utf8.acceptRanges", "internal/bytealg.MaxLen", "usher/pct.unreserved"], apart := false, laid := [("unicode/utf8.acceptRanges", laid_unicode_utf8_acceptRanges), ("usher/api.ErrText", laid_usher_api_ErrText), ("usher/api.ErrMany", laid_usher_api_ErrMany), ("usher/pct.unreserved", laid_usher_pct_unreserved), ("usher/terms.heads", laid_usher_terms_heads), ("unicode/utf8.first", laid_unicode_utf8_first)] }
def TermsAnswerInSaid : Prop := termsAnswerInRow.holds Tryd.pinned (OpenSpec.ofChange termsAnswerInSpec)

/-- ITS FALSE NEIGHBOUR: 'it returns false'. Refute it at one input. -/
def termsAnswerInWrong : ChangeSpec := { name := "termsAnswerIn", fn := fun _ => fun
  | [d] => { results := [.lit (.bool false)], args := [d] }
  | _ => none }
def TermsAnswerInWrongFalsely : Prop := termsAnswerInRow.holds Tryd.pinned (OpenSpec.ofChange termsAnswerInWrong)

/-- 'usherlaw9.TermsAnswerBack': WHATEVER THE INPUT: true; the input reads as it did. -/
def termsAnswerBackSpec : ChangeSpec := { name := "termsAnswerBack", fn := fun _ => fun
  | [d] => { results := [.lit (.bool true)], args := [d] }
  | _ => none }
def termsAnswerBackRow : OpenClaim := { program := "ytopfmcgmfnmikaadoor", sum := "9e65b418355cfb65bce93bc390e695e9d9319ea6b37012880fbba143f98cc918", func := "usher/usherlaw9.TermsAnswerBack", spec := "termsAnswerBack", inPlace := ["internal/bytealg.IndexByteString", "internal/bytealg.IndexString", "internal/bytealg.CountString", "internal/abi.NoEscape"], unfollowed := true, recurses := true, named := ["usher/api.ErrText", "usher/api.ErrMany", "usher/terms.heads", "unicode/utf8.first", "unicode/utf8.acceptRanges", "internal/bytealg.MaxLen", "usher/pct.unreserved"], apart := false, laid := [("unicode/utf8.acceptRanges", laid_unicode_utf8_acceptRanges), ("usher/api.ErrText", laid_usher_api_ErrText), ("usher/api.ErrMany", laid_usher_api_ErrMany), ("usher/pct.unreserved", laid_usher_pct_unreserved), ("usher/terms.heads", laid_usher_terms_heads), ("unicode/utf8.first", laid_unicode_utf8_first)] }
def TermsAnswerBackSaid : Prop := termsAnswerBackRow.holds Tryd.pinned (OpenSpec.ofChange termsAnswerBackSpec)

/-- ITS FALSE NEIGHBOUR: 'it returns false'. Refute it at one input. -/
def termsAnswerBackWrong : ChangeSpec := { name := "termsAnswerBack", fn := fun _ => fun
  | [d] => { results := [.lit (.bool false)], args := [d] }
  | _ => none }
def TermsAnswerBackWrongFalsely : Prop := termsAnswerBackRow.holds Tryd.pinned (OpenSpec.ofChange termsAnswerBackWrong)

/-- 'usherlaw9.TermsScopes': WHATEVER THE INPUT: true; the input reads as it did. -/
def termsScopesSpec : ChangeSpec := { name := "termsScopes", fn := fun _ => fun
  | [d] => { results := [.lit (.bool true)], args := [d] }
  | _ => none }
def termsScopesRow : OpenClaim := { program := "ytopfmcgmfnmikaadoor", sum := "9e65b418355cfb65bce93bc390e695e9d9319ea6b37012880fbba143f98cc918", func := "usher/usherlaw9.TermsScopes", spec := "termsScopes", inPlace := ["internal/bytealg.CountString", "internal/bytealg.IndexByteString", "internal/bytealg.IndexString"], recurses := true, named := ["usher/api.ErrText", "usher/api.ErrMany", "unicode/utf8.first", "unicode/utf8.acceptRanges", "internal/bytealg.MaxLen", "usher/api.ErrArg", "usher/api.ErrTwice", "usher/api.ErrScheme", "usher/api.ErrShort", "usher/api.ErrDry", "usher/api.ErrTaken", "usher/api.ErrFull", "usher/api.ErrDead", "usher/api.ErrLog", "usher/api.ErrLost", "usher/api.ErrDenied"], apart := false, laid := [("unicode/utf8.acceptRanges", laid_unicode_utf8_acceptRanges), ("usher/api.ErrArg", laid_usher_api_ErrArg), ("usher/api.ErrText", laid_usher_api_ErrText), ("usher/api.ErrMany", laid_usher_api_ErrMany), ("usher/api.ErrTwice", laid_usher_api_ErrTwice), ("usher/api.ErrScheme", laid_usher_api_ErrScheme), ("usher/api.ErrShort", laid_usher_api_ErrShort), ("usher/api.ErrDry", laid_usher_api_ErrDry), ("usher/api.ErrTaken", laid_usher_api_ErrTaken), ("usher/api.ErrFull", laid_usher_api_ErrFull), ("usher/api.ErrDead", laid_usher_api_ErrDead), ("usher/api.ErrLog", laid_usher_api_ErrLog), ("usher/api.ErrLost", laid_usher_api_ErrLost), ("usher/api.ErrDenied", laid_usher_api_ErrDenied), ("unicode/utf8.first", laid_unicode_utf8_first)] }
def TermsScopesSaid : Prop := termsScopesRow.holds Tryd.pinned (OpenSpec.ofChange termsScopesSpec)

/-- ITS FALSE NEIGHBOUR: 'it returns false'. Refute it at one input. -/
def termsScopesWrong : ChangeSpec := { name := "termsScopes", fn := fun _ => fun
  | [d] => { results := [.lit (.bool false)], args := [d] }
  | _ => none }
def TermsScopesWrongFalsely : Prop := termsScopesRow.holds Tryd.pinned (OpenSpec.ofChange termsScopesWrong)

/-- 'usherlaw9.TermsScopeOrder': WHATEVER THE INPUT: true; the input reads as it did. -/
def termsScopeOrderSpec : ChangeSpec := { name := "termsScopeOrder", fn := fun _ => fun
  | [d] => { results := [.lit (.bool true)], args := [d] }
  | _ => none }
def termsScopeOrderRow : OpenClaim := { program := "ytopfmcgmfnmikaadoor", sum := "9e65b418355cfb65bce93bc390e695e9d9319ea6b37012880fbba143f98cc918", func := "usher/usherlaw9.TermsScopeOrder", spec := "termsScopeOrder", inPlace := ["internal/bytealg.CountString", "internal/bytealg.IndexByteString", "internal/bytealg.IndexString", "internal/abi.NoEscape", "internal/bytealg.MakeNoZero"], recurses := true, named := ["usher/api.ErrText", "usher/api.ErrMany", "unicode/utf8.first", "unicode/utf8.acceptRanges", "internal/bytealg.MaxLen", "usher/api.ErrArg", "usher/api.ErrTwice", "usher/api.ErrScheme", "usher/api.ErrShort", "usher/api.ErrDry", "usher/api.ErrTaken", "usher/api.ErrFull", "usher/api.ErrDead", "usher/api.ErrLog", "usher/api.ErrLost", "usher/api.ErrDenied"], apart := false, laid := [("unicode/utf8.acceptRanges", laid_unicode_utf8_acceptRanges), ("usher/api.ErrArg", laid_usher_api_ErrArg), ("usher/api.ErrText", laid_usher_api_ErrText), ("usher/api.ErrMany", laid_usher_api_ErrMany), ("usher/api.ErrTwice", laid_usher_api_ErrTwice), ("usher/api.ErrScheme", laid_usher_api_ErrScheme), ("usher/api.ErrShort", laid_usher_api_ErrShort), ("usher/api.ErrDry", laid_usher_api_ErrDry), ("usher/api.ErrTaken", laid_usher_api_ErrTaken), ("usher/api.ErrFull", laid_usher_api_ErrFull), ("usher/api.ErrDead", laid_usher_api_ErrDead), ("usher/api.ErrLog", laid_usher_api_ErrLog), ("usher/api.ErrLost", laid_usher_api_ErrLost), ("usher/api.ErrDenied", laid_usher_api_ErrDenied), ("unicode/utf8.first", laid_unicode_utf8_first)] }
def TermsScopeOrderSaid : Prop := termsScopeOrderRow.holds Tryd.pinned (OpenSpec.ofChange termsScopeOrderSpec)

/-- ITS FALSE NEIGHBOUR: 'it returns false'. Refute it at one input. -/
def termsScopeOrderWrong : ChangeSpec := { name := "termsScopeOrder", fn := fun _ => fun
  | [d] => { results := [.lit (.bool false)], args := [d] }
  | _ => none }
def TermsScopeOrderWrongFalsely : Prop := termsScopeOrderRow.holds Tryd.pinned (OpenSpec.ofChange termsScopeOrderWrong)

/-- 'usherlaw9.TermsScopeBack': WHATEVER THE INPUT: true; the input reads as it did. -/
def termsScopeBackSpec : ChangeSpec := { name := "termsScopeBack", fn := fun _ => fun
  | [d] => { results := [.lit (.bool true)], args := [d] }
  | _ => none }
def termsScopeBackRow : OpenClaim := { program := "ytopfmcgmfnmikaadoor", sum := "9e65b418355cfb65bce93bc390e695e9d9319ea6b37012880fbba143f98cc918", func := "usher/usherlaw9.TermsScopeBack", spec := "termsScopeBack", inPlace := ["internal/bytealg.CountString", "internal/bytealg.IndexByteString", "internal/bytealg.IndexString", "internal/abi.NoEscape", "internal/bytealg.MakeNoZero"], recurses := true, named := ["usher/api.ErrText", "usher/api.ErrMany", "unicode/utf8.first", "unicode/utf8.acceptRanges", "internal/bytealg.MaxLen"], apart := false, laid := [("unicode/utf8.acceptRanges", laid_unicode_utf8_acceptRanges), ("usher/api.ErrText", laid_usher_api_ErrText), ("usher/api.ErrMany", laid_usher_api_ErrMany), ("unicode/utf8.first", laid_unicode_utf8_first)] }
def TermsScopeBackSaid : Prop := termsScopeBackRow.holds Tryd.pinned (OpenSpec.ofChange termsScopeBackSpec)

/-- ITS FALSE NEIGHBOUR: 'it returns false'. Refute it at one input. -/
def termsScopeBackWrong : ChangeSpec := { name := "termsScopeBack", fn := fun _ => fun
  | [d] => { results := [.lit (.bool false)], args := [d] }
  | _ => none }
def TermsScopeBackWrongFalsely : Prop := termsScopeBackRow.holds Tryd.pinned (OpenSpec.ofChange termsScopeBackWrong)

/- THE SECOND FORM. 'bulk': how many values and letters a reading holds, each counted each time it is reached (what is shared counts as often as it is met; a slice's spare places count too). A statement '..UptoSaid' is the law's where the arguments, and the package variables that the reading takes, are together of bulk at most 1048576: NARROWER than '..Said'. Prove '..Said' where nothing that the law and all that it calls make is longer than what came in: it says more and counts as full. Else prove '..UptoSaid'. A law counts once. -/
mutual
def uptoBulk {H : Type} : DataW H → Nat
  | .lit (.string bytes) => bytes.length + 1
  | .lit _ => 1
  | .nil => 1
  | .ptr d => uptoBulk d + 1
  | .slice elems spare => uptoBulkAll elems + uptoBulkAll spare + 1
  | .agg parts => uptoBulkAll parts + 1
  | .iface _ d => uptoBulk d + 1
  | .map entries => uptoBulkEntries entries + 1
  | .held _ => 1
def uptoBulkAll {H : Type} : List (DataW H) → Nat
  | [] => 0
  | d :: r => uptoBulk d + uptoBulkAll r
def uptoBulkEntries {H : Type} : List (Lit × DataW H) → Nat
  | [] => 0
  | x :: r => uptoBulkEntry x + uptoBulkEntries r
def uptoBulkEntry {H : Type} : Lit × DataW H → Nat
  | (.string bytes, d) => bytes.length + uptoBulk d + 1
  | (_, d) => uptoBulk d + 1
 end
def uptoSmall : (H : Type) → List (DataW H) → Bool := fun _ ds => decide (uptoBulkAll ds ≤ 1048576)
def OpenSpec.upto (s : _root_.Go.ChangeSpec) : _root_.Go.OpenSpec := { _root_.Go.OpenSpec.ofChange s with cond := some uptoSmall }

/-- 'usherlaw9.TermsRedirects', WHERE WHAT IT READS IS OF BULK AT MOST 1048576: true; the input reads as it did. -/
def termsRedirectsUptoRow : OpenClaim := { program := "ytopfmcgmfnmikaadoor", sum := "9e65b418355cfb65bce93bc390e695e9d9319ea6b37012880fbba143f98cc918", func := "usher/usherlaw9.TermsRedirects", spec := "termsRedirects", inPlace := ["internal/bytealg.IndexByteString", "internal/bytealg.IndexString", "internal/bytealg.CountString"], unfollowed := true, recurses := true, named := ["usher/terms.heads", "unicode/utf8.first", "unicode/utf8.acceptRanges", "internal/bytealg.MaxLen"], apart := false, laid := [("unicode/utf8.acceptRanges", laid_unicode_utf8_acceptRanges), ("usher/terms.heads", laid_usher_terms_heads), ("unicode/utf8.first", laid_unicode_utf8_first)], narrowed := true }
def TermsRedirectsUptoSaid : Prop := termsRedirectsUptoRow.holds Tryd.pinned (OpenSpec.upto termsRedirectsSpec)

/-- 'usherlaw9.TermsRedirectSafe', WHERE WHAT IT READS IS OF BULK AT MOST 1048576: true; the input reads as it did. -/
def termsRedirectSafeUptoRow : OpenClaim := { program := "ytopfmcgmfnmikaadoor", sum := "9e65b418355cfb65bce93bc390e695e9d9319ea6b37012880fbba143f98cc918", func := "usher/usherlaw9.TermsRedirectSafe", spec := "termsRedirectSafe", inPlace := ["internal/bytealg.IndexByteString", "internal/bytealg.IndexString", "internal/bytealg.CountString"], unfollowed := true, recurses := true, named := ["usher/terms.heads", "unicode/utf8.first", "unicode/utf8.acceptRanges", "internal/bytealg.MaxLen"], apart := false, laid := [("unicode/utf8.acceptRanges", laid_unicode_utf8_acceptRanges), ("usher/terms.heads", laid_usher_terms_heads), ("unicode/utf8.first", laid_unicode_utf8_first)], narrowed := true }
def TermsRedirectSafeUptoSaid : Prop := termsRedirectSafeUptoRow.holds Tryd.pinned (OpenSpec.upto termsRedirectSafeSpec)

/-- 'usherlaw9.TermsAnswers', WHERE WHAT IT READS IS OF BULK AT MOST 1048576: true; the input reads as it did. -/
def termsAnswersUptoRow : OpenClaim := { program := "ytopfmcgmfnmikaadoor", sum := "9e65b418355cfb65bce93bc390e695e9d9319ea6b37012880fbba143f98cc918", func := "usher/usherlaw9.TermsAnswers", spec := "termsAnswers", inPlace := ["internal/bytealg.IndexByteString", "internal/bytealg.IndexString", "internal/bytealg.CountString", "internal/abi.NoEscape"], unfollowed := true, recurses := true, named := ["usher/api.ErrText", "usher/api.ErrMany", "usher/terms.heads", "unicode/utf8.first", "unicode/utf8.acceptRanges", "internal/bytealg.MaxLen", "usher/pct.unreserved", "usher/api.ErrArg", "usher/api.ErrTwice", "usher/api.ErrScheme", "usher/api.ErrShort", "usher/api.ErrDry", "usher/api.ErrTaken", "usher/api.ErrFull", "usher/api.ErrDead", "usher/api.ErrLog", "usher/api.ErrLost", "usher/api.ErrDenied"], apart := false, laid := [("unicode/utf8.acceptRanges", laid_unicode_utf8_acceptRanges), ("usher/api.ErrArg", laid_usher_api_ErrArg), ("usher/api.ErrText", laid_usher_api_ErrText), ("usher/api.ErrMany", laid_usher_api_ErrMany), ("usher/api.ErrTwice", laid_usher_api_ErrTwice), ("usher/api.ErrScheme", laid_usher_api_ErrScheme), ("usher/api.ErrShort", laid_usher_api_ErrShort), ("usher/api.ErrDry", laid_usher_api_ErrDry), ("usher/api.ErrTaken", laid_usher_api_ErrTaken), ("usher/api.ErrFull", laid_usher_api_ErrFull), ("usher/api.ErrDead", laid_usher_api_ErrDead), ("usher/api.ErrLog", laid_usher_api_ErrLog), ("usher/api.ErrLost", laid_usher_api_ErrLost), ("usher/api.ErrDenied", laid_usher_api_ErrDenied), ("usher/pct.unreserved", laid_usher_pct_unreserved), ("usher/terms.heads", laid_usher_terms_heads), ("unicode/utf8.first", laid_unicode_utf8_first)], narrowed := true }
def TermsAnswersUptoSaid : Prop := termsAnswersUptoRow.holds Tryd.pinned (OpenSpec.upto termsAnswersSpec)

/-- 'usherlaw9.TermsAnswerIn', WHERE WHAT IT READS IS OF BULK AT MOST 1048576: true; the input reads as it did. -/
def termsAnswerInUptoRow : OpenClaim := { program := "ytopfmcgmfnmikaadoor", sum := "9e65b418355cfb65bce93bc390e695e9d9319ea6b37012880fbba143f98cc918", func := "usher/usherlaw9.TermsAnswerIn", spec := "termsAnswerIn", inPlace := ["internal/bytealg.IndexByteString", "internal/bytealg.IndexString", "internal/bytealg.CountString", "internal/abi.NoEscape"], unfollowed := true, recurses := true, named := ["usher/api.ErrText", "usher/api.ErrMany", "usher/terms.heads", "unicode/utf8.first", "unicode/utf8.acceptRanges", "internal/bytealg.MaxLen", "usher/pct.unreserved"], apart := false, laid := [("unicode/utf8.acceptRanges", laid_unicode_utf8_acceptRanges), ("usher/api.ErrText", laid_usher_api_ErrText), ("usher/api.ErrMany", laid_usher_api_ErrMany), ("usher/pct.unreserved", laid_usher_pct_unreserved), ("usher/terms.heads", laid_usher_terms_heads), ("unicode/utf8.first", laid_unicode_utf8_first)], narrowed := true }
def TermsAnswerInUptoSaid : Prop := termsAnswerInUptoRow.holds Tryd.pinned (OpenSpec.upto termsAnswerInSpec)

/-- 'usherlaw9.TermsAnswerBack', WHERE WHAT IT READS IS OF BULK AT MOST 1048576: true; the input reads as it did. -/
def termsAnswerBackUptoRow : OpenClaim := { program := "ytopfmcgmfnmikaadoor", sum := "9e65b418355cfb65bce93bc390e695e9d9319ea6b37012880fbba143f98cc918", func := "usher/usherlaw9.TermsAnswerBack", spec := "termsAnswerBack", inPlace := ["internal/bytealg.IndexByteString", "internal/bytealg.IndexString", "internal/bytealg.CountString", "internal/abi.NoEscape"], unfollowed := true, recurses := true, named := ["usher/api.ErrText", "usher/api.ErrMany", "usher/terms.heads", "unicode/utf8.first", "unicode/utf8.acceptRanges", "internal/bytealg.MaxLen", "usher/pct.unreserved"], apart := false, laid := [("unicode/utf8.acceptRanges", laid_unicode_utf8_acceptRanges), ("usher/api.ErrText", laid_usher_api_ErrText), ("usher/api.ErrMany", laid_usher_api_ErrMany), ("usher/pct.unreserved", laid_usher_pct_unreserved), ("usher/terms.heads", laid_usher_terms_heads), ("unicode/utf8.first", laid_unicode_utf8_first)], narrowed := true }
def TermsAnswerBackUptoSaid : Prop := termsAnswerBackUptoRow.holds Tryd.pinned (OpenSpec.upto termsAnswerBackSpec)

/-- 'usherlaw9.TermsScopes', WHERE WHAT IT READS IS OF BULK AT MOST 1048576: true; the input reads as it did. -/
def termsScopesUptoRow : OpenClaim := { program := "ytopfmcgmfnmikaadoor", sum := "9e65b418355cfb65bce93bc390e695e9d9319ea6b37012880fbba143f98cc918", func := "usher/usherlaw9.TermsScopes", spec := "termsScopes", inPlace := ["internal/bytealg.CountString", "internal/bytealg.IndexByteString", "internal/bytealg.IndexString"], recurses := true, named := ["usher/api.ErrText", "usher/api.ErrMany", "unicode/utf8.first", "unicode/utf8.acceptRanges", "internal/bytealg.MaxLen", "usher/api.ErrArg", "usher/api.ErrTwice", "usher/api.ErrScheme", "usher/api.ErrShort", "usher/api.ErrDry", "usher/api.ErrTaken", "usher/api.ErrFull", "usher/api.ErrDead", "usher/api.ErrLog", "usher/api.ErrLost", "usher/api.ErrDenied"], apart := false, laid := [("unicode/utf8.acceptRanges", laid_unicode_utf8_acceptRanges), ("usher/api.ErrArg", laid_usher_api_ErrArg), ("usher/api.ErrText", laid_usher_api_ErrText), ("usher/api.ErrMany", laid_usher_api_ErrMany), ("usher/api.ErrTwice", laid_usher_api_ErrTwice), ("usher/api.ErrScheme", laid_usher_api_ErrScheme), ("usher/api.ErrShort", laid_usher_api_ErrShort), ("usher/api.ErrDry", laid_usher_api_ErrDry), ("usher/api.ErrTaken", laid_usher_api_ErrTaken), ("usher/api.ErrFull", laid_usher_api_ErrFull), ("usher/api.ErrDead", laid_usher_api_ErrDead), ("usher/api.ErrLog", laid_usher_api_ErrLog), ("usher/api.ErrLost", laid_usher_api_ErrLost), ("usher/api.ErrDenied", laid_usher_api_ErrDenied), ("unicode/utf8.first", laid_unicode_utf8_first)], narrowed := true }
def TermsScopesUptoSaid : Prop := termsScopesUptoRow.holds Tryd.pinned (OpenSpec.upto termsScopesSpec)

/-- 'usherlaw9.TermsScopeOrder', WHERE WHAT IT READS IS OF BULK AT MOST 1048576: true; the input reads as it did. -/
def termsScopeOrderUptoRow : OpenClaim := { program := "ytopfmcgmfnmikaadoor", sum := "9e65b418355cfb65bce93bc390e695e9d9319ea6b37012880fbba143f98cc918", func := "usher/usherlaw9.TermsScopeOrder", spec := "termsScopeOrder", inPlace := ["internal/bytealg.CountString", "internal/bytealg.IndexByteString", "internal/bytealg.IndexString", "internal/abi.NoEscape", "internal/bytealg.MakeNoZero"], recurses := true, named := ["usher/api.ErrText", "usher/api.ErrMany", "unicode/utf8.first", "unicode/utf8.acceptRanges", "internal/bytealg.MaxLen", "usher/api.ErrArg", "usher/api.ErrTwice", "usher/api.ErrScheme", "usher/api.ErrShort", "usher/api.ErrDry", "usher/api.ErrTaken", "usher/api.ErrFull", "usher/api.ErrDead", "usher/api.ErrLog", "usher/api.ErrLost", "usher/api.ErrDenied"], apart := false, laid := [("unicode/utf8.acceptRanges", laid_unicode_utf8_acceptRanges), ("usher/api.ErrArg", laid_usher_api_ErrArg), ("usher/api.ErrText", laid_usher_api_ErrText), ("usher/api.ErrMany", laid_usher_api_ErrMany), ("usher/api.ErrTwice", laid_usher_api_ErrTwice), ("usher/api.ErrScheme", laid_usher_api_ErrScheme), ("usher/api.ErrShort", laid_usher_api_ErrShort), ("usher/api.ErrDry", laid_usher_api_ErrDry), ("usher/api.ErrTaken", laid_usher_api_ErrTaken), ("usher/api.ErrFull", laid_usher_api_ErrFull), ("usher/api.ErrDead", laid_usher_api_ErrDead), ("usher/api.ErrLog", laid_usher_api_ErrLog), ("usher/api.ErrLost", laid_usher_api_ErrLost), ("usher/api.ErrDenied", laid_usher_api_ErrDenied), ("unicode/utf8.first", laid_unicode_utf8_first)], narrowed := true }
def TermsScopeOrderUptoSaid : Prop := termsScopeOrderUptoRow.holds Tryd.pinned (OpenSpec.upto termsScopeOrderSpec)

/-- 'usherlaw9.TermsScopeBack', WHERE WHAT IT READS IS OF BULK AT MOST 1048576: true; the input reads as it did. -/
def termsScopeBackUptoRow : OpenClaim := { program := "ytopfmcgmfnmikaadoor", sum := "9e65b418355cfb65bce93bc390e695e9d9319ea6b37012880fbba143f98cc918", func := "usher/usherlaw9.TermsScopeBack", spec := "termsScopeBack", inPlace := ["internal/bytealg.CountString", "internal/bytealg.IndexByteString", "internal/bytealg.IndexString", "internal/abi.NoEscape", "internal/bytealg.MakeNoZero"], recurses := true, named := ["usher/api.ErrText", "usher/api.ErrMany", "unicode/utf8.first", "unicode/utf8.acceptRanges", "internal/bytealg.MaxLen"], apart := false, laid := [("unicode/utf8.acceptRanges", laid_unicode_utf8_acceptRanges), ("usher/api.ErrText", laid_usher_api_ErrText), ("usher/api.ErrMany", laid_usher_api_ErrMany), ("unicode/utf8.first", laid_unicode_utf8_first)], narrowed := true }
def TermsScopeBackUptoSaid : Prop := termsScopeBackUptoRow.holds Tryd.pinned (OpenSpec.upto termsScopeBackSpec)

end Rows
end Go.Proofs.YtopfmcgmfnmikaaDoor
