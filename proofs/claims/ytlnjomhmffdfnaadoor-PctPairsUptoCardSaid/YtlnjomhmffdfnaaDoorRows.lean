/-
  NARROWER THAN 'FOR EVERY INPUT', by the rows' own cells (each row's printed sentence says how): PctEscapes: laid · PctUnescapes: laid · PctShape: laid · PctRefuses: laid · PctCase: laid · PctForms: laid · PctBack: laid · PctPairs: laid · PctJoin: laid · PctFormBack: laid · PctOnce: laid.
  DERIVED. THE GIVEN ROWS OF THIS SEAT. 11 by the template 'for every input the law returns true; each argument reads behind the call as it read before'; 0 by the template 'total and deterministic' (their statements: YtlnjomhmffdfnaaDoorTotals.lean).
  GIVEN WITH THE SEED: the statements are not yours to turn. If you find one false, say at which input.
  Laid BY PROGRAM, IN A SANDBOX (cutbox-rows.mjs): the forced cells as the released guide's own fill.sh prints them over the translation ccff97a7f0515f13… (all of the seat's roots in one cut). By AI agents, Wed Nov 11 2026. No macro, syntax, notation, axiom, sorry.
-/
import Derived.Test.YtlnjomhmffdfnaaDoorChecked
import GoSem.PinnedTables
import GoSem.Claim
import GoSem.ClaimJoined
import GoSem.ClaimMapViews
import Derived.JoinedTies
import Derived.KernelRfl
namespace Go.Proofs.YtlnjomhmffdfnaaDoor
/- THE CELL 'sum', in the pinned program and in every row, IS THE sha256 OF THE DUMP (.gsa) THAT YtlnjomhmffdfnaaDoorProg.lean LOADS. Nothing in Lean hashes anything: it is a label: what it is worth is what the hold of that sum in a sandbox is worth. -/
noncomputable def Tryd.pinned : Pinned := { name := "ytlnjomhmffdfnaadoor", sum := "ccff97a7f0515f13156e6016a3fab2a6f53bc9e3e04878fc5d47878d97056202", checked := Tryd.checked }
namespace Rows
def none {H : Type} : Left H := { results := [], args := [] }

/- WHAT THE LISTED PACKAGE-LEVEL VARIABLES READ AS WHEN THE CALL BEGINS. Each datum BY PROGRAM (the guide's laid-datum.mjs) off the statement by which the dump's own 'gosem.cut.vars' lays the variable. In a bare row this is a premise. The card (YtlnjomhmffdfnaaDoorCards.lean) ties it to the program's text. -/
def laid_usher_pct_unreserved {H : Type} : DataW H := .agg [.lit (.int .u32 0), .lit (.int .u32 67067904), .lit (.int .u32 2281701374), .lit (.int .u32 1207959550)]
def laid_usher_api_ErrArg {H : Type} : DataW H := .iface "*errors.errorString" (.ptr (.agg [.lit (.string [97, 114, 103, 117, 109, 101, 110, 116])]))
def laid_usher_api_ErrText {H : Type} : DataW H := .iface "*errors.errorString" (.ptr (.agg [.lit (.string [116, 101, 120, 116])]))
def laid_usher_api_ErrMany {H : Type} : DataW H := .iface "*errors.errorString" (.ptr (.agg [.lit (.string [109, 97, 110, 121])]))
def laid_usher_api_ErrTwice {H : Type} : DataW H := .iface "*errors.errorString" (.ptr (.agg [.lit (.string [116, 119, 105, 99, 101])]))
def laid_usher_api_ErrScheme {H : Type} : DataW H := .iface "*errors.errorString" (.ptr (.agg [.lit (.string [115, 99, 104, 101, 109, 101])]))
def laid_usher_api_ErrShort {H : Type} : DataW H := .iface "*errors.errorString" (.ptr (.agg [.lit (.string [115, 104, 111, 114, 116])]))
def laid_usher_api_ErrDry {H : Type} : DataW H := .iface "*errors.errorString" (.ptr (.agg [.lit (.string [100, 114, 121])]))
def laid_usher_api_ErrTaken {H : Type} : DataW H := .iface "*errors.errorString" (.ptr (.agg [.lit (.string [116, 97, 107, 101, 110])]))
def laid_usher_api_ErrFull {H : Type} : DataW H := .iface "*errors.errorString" (.ptr (.agg [.lit (.string [102, 117, 108, 108])]))
def laid_usher_api_ErrDead {H : Type} : DataW H := .iface "*errors.errorString" (.ptr (.agg [.lit (.string [100, 101, 97, 100])]))
def laid_usher_api_ErrLog {H : Type} : DataW H := .iface "*errors.errorString" (.ptr (.agg [.lit (.string [108, 111, 103])]))
def laid_usher_api_ErrLost {H : Type} : DataW H := .iface "*errors.errorString" (.ptr (.agg [.lit (.string [108, 111, 115, 116])]))
def laid_usher_api_ErrDenied {H : Type} : DataW H := .iface "*errors.errorString" (.ptr (.agg [.lit (.string [100, 101, 110, 105, 101, 100])]))
def laid_unicode_utf8_acceptRanges {H : Type} : DataW H := .agg [.agg [.lit (.int .u8 128), .lit (.int .u8 191)], .agg [.lit (.int .u8 160), .lit (.int .u8 191)], .agg [.lit (.int .u8 128), .lit (.int .u8 159)], .agg [.lit (.int .u8 144), .lit (.int .u8 191)], .agg [.lit (.int .u8 128), .lit (.int .u8 143)], .agg [.lit (.int .u8 0), .lit (.int .u8 0)], .agg [.lit (.int .u8 0), .lit (.int .u8 0)], .agg [.lit (.int .u8 0), .lit (.int .u8 0)], .agg [.lit (.int .u8 0), .lit (.int .u8 0)], .agg [.lit (.int .u8 0), .lit (.int .u8 0)], .agg [.lit (.int .u8 0), .lit (.int .u8 0)], .agg [.lit (.int .u8 0), .lit (.int .u8 0)], .agg [.lit (.int .u8 0), .lit (.int .u8 0)], .agg [.lit (.int .u8 0), .lit (.int .u8 0)], .agg [.lit (.int .u8 0), .lit (.int .u8 0)], .agg [.lit (.int .u8 0), .lit (.int .u8 0)]]
/-- One of Go's own tables, pinned by name: the form's constant. -/
def laid_unicode_utf8_first : DataW Unit := Go.Pinned.utf8First

/-- 'usherlaw3.PctEscapes': WHATEVER THE INPUT: true; the input reads as it did. -/
def pctEscapesSpec : ChangeSpec := { name := "pctEscapes", fn := fun _ => fun
  | [d] => { results := [.lit (.bool true)], args := [d] }
  | _ => none }
def pctEscapesRow : OpenClaim := { program := "ytlnjomhmffdfnaadoor", sum := "ccff97a7f0515f13156e6016a3fab2a6f53bc9e3e04878fc5d47878d97056202", func := "usher/usherlaw3.PctEscapes", spec := "pctEscapes", inPlace := ["internal/abi.NoEscape"], named := ["usher/pct.unreserved"], apart := false, laid := [("usher/pct.unreserved", laid_usher_pct_unreserved)] }
def PctEscapesSaid : Prop := pctEscapesRow.holds Tryd.pinned (OpenSpec.ofChange pctEscapesSpec)

/-- ITS FALSE NEIGHBOUR: 'it returns false'. Refute it at one input. -/
def pctEscapesWrong : ChangeSpec := { name := "pctEscapes", fn := fun _ => fun
  | [d] => { results := [.lit (.bool false)], args := [d] }
  | _ => none }
def PctEscapesWrongFalsely : Prop := pctEscapesRow.holds Tryd.pinned (OpenSpec.ofChange pctEscapesWrong)

/-- 'usherlaw3.PctUnescapes': WHATEVER THE INPUT: true; the input reads as it did. -/
def pctUnescapesSpec : ChangeSpec := { name := "pctUnescapes", fn := fun _ => fun
  | [d] => { results := [.lit (.bool true)], args := [d] }
  | _ => none }
def pctUnescapesRow : OpenClaim := { program := "ytlnjomhmffdfnaadoor", sum := "ccff97a7f0515f13156e6016a3fab2a6f53bc9e3e04878fc5d47878d97056202", func := "usher/usherlaw3.PctUnescapes", spec := "pctUnescapes", named := ["usher/api.ErrText", "usher/api.ErrArg", "usher/api.ErrMany", "usher/api.ErrTwice", "usher/api.ErrScheme", "usher/api.ErrShort", "usher/api.ErrDry", "usher/api.ErrTaken", "usher/api.ErrFull", "usher/api.ErrDead", "usher/api.ErrLog", "usher/api.ErrLost", "usher/api.ErrDenied"], apart := false, laid := [("usher/api.ErrArg", laid_usher_api_ErrArg), ("usher/api.ErrText", laid_usher_api_ErrText), ("usher/api.ErrMany", laid_usher_api_ErrMany), ("usher/api.ErrTwice", laid_usher_api_ErrTwice), ("usher/api.ErrScheme", laid_usher_api_ErrScheme), ("usher/api.ErrShort", laid_usher_api_ErrShort), ("usher/api.ErrDry", laid_usher_api_ErrDry), ("usher/api.ErrTaken", laid_usher_api_ErrTaken), ("usher/api.ErrFull", laid_usher_api_ErrFull), ("usher/api.ErrDead", laid_usher_api_ErrDead), ("usher/api.ErrLog", laid_usher_api_ErrLog), ("usher/api.ErrLost", laid_usher_api_ErrLost), ("usher/api.ErrDenied", laid_usher_api_ErrDenied)] }
def PctUnescapesSaid : Prop := pctUnescapesRow.holds Tryd.pinned (OpenSpec.ofChange pctUnescapesSpec)

/-- ITS FALSE NEIGHBOUR: 'it returns false'. Refute it at one input. -/
def pctUnescapesWrong : ChangeSpec := { name := "pctUnescapes", fn := fun _ => fun
  | [d] => { results := [.lit (.bool false)], args := [d] }
  | _ => none }
def PctUnescapesWrongFalsely : Prop := pctUnescapesRow.holds Tryd.pinned (OpenSpec.ofChange pctUnescapesWrong)

/-- 'usherlaw3.PctShape': WHATEVER THE INPUT: true; the input reads as it did. -/
def pctShapeSpec : ChangeSpec := { name := "pctShape", fn := fun _ => fun
  | [d] => { results := [.lit (.bool true)], args := [d] }
  | _ => none }
def pctShapeRow : OpenClaim := { program := "ytlnjomhmffdfnaadoor", sum := "ccff97a7f0515f13156e6016a3fab2a6f53bc9e3e04878fc5d47878d97056202", func := "usher/usherlaw3.PctShape", spec := "pctShape", inPlace := ["internal/abi.NoEscape"], named := ["usher/pct.unreserved"], apart := false, laid := [("usher/pct.unreserved", laid_usher_pct_unreserved)] }
def PctShapeSaid : Prop := pctShapeRow.holds Tryd.pinned (OpenSpec.ofChange pctShapeSpec)

/-- ITS FALSE NEIGHBOUR: 'it returns false'. Refute it at one input. -/
def pctShapeWrong : ChangeSpec := { name := "pctShape", fn := fun _ => fun
  | [d] => { results := [.lit (.bool false)], args := [d] }
  | _ => none }
def PctShapeWrongFalsely : Prop := pctShapeRow.holds Tryd.pinned (OpenSpec.ofChange pctShapeWrong)

/-- 'usherlaw3.PctRefuses': WHATEVER THE INPUT: true; the input reads as it did. -/
def pctRefusesSpec : ChangeSpec := { name := "pctRefuses", fn := fun _ => fun
  | [d] => { results := [.lit (.bool true)], args := [d] }
  | _ => none }
def pctRefusesRow : OpenClaim := { program := "ytlnjomhmffdfnaadoor", sum := "ccff97a7f0515f13156e6016a3fab2a6f53bc9e3e04878fc5d47878d97056202", func := "usher/usherlaw3.PctRefuses", spec := "pctRefuses", named := ["usher/api.ErrText"], apart := false, laid := [("usher/api.ErrText", laid_usher_api_ErrText)] }
def PctRefusesSaid : Prop := pctRefusesRow.holds Tryd.pinned (OpenSpec.ofChange pctRefusesSpec)

/-- ITS FALSE NEIGHBOUR: 'it returns false'. Refute it at one input. -/
def pctRefusesWrong : ChangeSpec := { name := "pctRefuses", fn := fun _ => fun
  | [d] => { results := [.lit (.bool false)], args := [d] }
  | _ => none }
def PctRefusesWrongFalsely : Prop := pctRefusesRow.holds Tryd.pinned (OpenSpec.ofChange pctRefusesWrong)

/-- 'usherlaw3.PctCase': WHATEVER THE INPUT: true; the input reads as it did. -/
def pctCaseSpec : ChangeSpec := { name := "pctCase", fn := fun _ => fun
  | [d] => { results := [.lit (.bool true)], args := [d] }
  | _ => none }
def pctCaseRow : OpenClaim := { program := "ytlnjomhmffdfnaadoor", sum := "ccff97a7f0515f13156e6016a3fab2a6f53bc9e3e04878fc5d47878d97056202", func := "usher/usherlaw3.PctCase", spec := "pctCase", named := ["usher/api.ErrText", "usher/api.ErrArg", "usher/api.ErrMany", "usher/api.ErrTwice", "usher/api.ErrScheme", "usher/api.ErrShort", "usher/api.ErrDry", "usher/api.ErrTaken", "usher/api.ErrFull", "usher/api.ErrDead", "usher/api.ErrLog", "usher/api.ErrLost", "usher/api.ErrDenied"], apart := false, laid := [("usher/api.ErrArg", laid_usher_api_ErrArg), ("usher/api.ErrText", laid_usher_api_ErrText), ("usher/api.ErrMany", laid_usher_api_ErrMany), ("usher/api.ErrTwice", laid_usher_api_ErrTwice), ("usher/api.ErrScheme", laid_usher_api_ErrScheme), ("usher/api.ErrShort", laid_usher_api_ErrShort), ("usher/api.ErrDry", laid_usher_api_ErrDry), ("usher/api.ErrTaken", laid_usher_api_ErrTaken), ("usher/api.ErrFull", laid_usher_api_ErrFull), ("usher/api.ErrDead", laid_usher_api_ErrDead), ("usher/api.ErrLog", laid_usher_api_ErrLog), ("usher/api.ErrLost", laid_usher_api_ErrLost), ("usher/api.ErrDenied", laid_usher_api_ErrDenied)] }
def PctCaseSaid : Prop := pctCaseRow.holds Tryd.pinned (OpenSpec.ofChange pctCaseSpec)

/-- ITS FALSE NEIGHBOUR: 'it returns false'. Refute it at one input. -/
def pctCaseWrong : ChangeSpec := { name := "pctCase", fn := fun _ => fun
  | [d] => { results := [.lit (.bool false)], args := [d] }
  | _ => none }
def PctCaseWrongFalsely : Prop := pctCaseRow.holds Tryd.pinned (OpenSpec.ofChange pctCaseWrong)

/-- 'usherlaw3.PctForms': WHATEVER THE INPUT: true; the input reads as it did. -/
def pctFormsSpec : ChangeSpec := { name := "pctForms", fn := fun _ => fun
  | [d] => { results := [.lit (.bool true)], args := [d] }
  | _ => none }
def pctFormsRow : OpenClaim := { program := "ytlnjomhmffdfnaadoor", sum := "ccff97a7f0515f13156e6016a3fab2a6f53bc9e3e04878fc5d47878d97056202", func := "usher/usherlaw3.PctForms", spec := "pctForms", inPlace := ["internal/abi.NoEscape"], named := ["usher/pct.unreserved"], apart := false, laid := [("usher/pct.unreserved", laid_usher_pct_unreserved)] }
def PctFormsSaid : Prop := pctFormsRow.holds Tryd.pinned (OpenSpec.ofChange pctFormsSpec)

/-- ITS FALSE NEIGHBOUR: 'it returns false'. Refute it at one input. -/
def pctFormsWrong : ChangeSpec := { name := "pctForms", fn := fun _ => fun
  | [d] => { results := [.lit (.bool false)], args := [d] }
  | _ => none }
def PctFormsWrongFalsely : Prop := pctFormsRow.holds Tryd.pinned (OpenSpec.ofChange pctFormsWrong)

/-- 'usherlaw3.PctBack': WHATEVER THE INPUT: true; the input reads as it did. -/
def pctBackSpec : ChangeSpec := { name := "pctBack", fn := fun _ => fun
  | [d] => { results := [.lit (.bool true)], args := [d] }
  | _ => none }
def pctBackRow : OpenClaim := { program := "ytlnjomhmffdfnaadoor", sum := "ccff97a7f0515f13156e6016a3fab2a6f53bc9e3e04878fc5d47878d97056202", func := "usher/usherlaw3.PctBack", spec := "pctBack", inPlace := ["internal/abi.NoEscape"], named := ["usher/pct.unreserved", "usher/api.ErrText"], apart := false, laid := [("usher/api.ErrText", laid_usher_api_ErrText), ("usher/pct.unreserved", laid_usher_pct_unreserved)] }
def PctBackSaid : Prop := pctBackRow.holds Tryd.pinned (OpenSpec.ofChange pctBackSpec)

/-- ITS FALSE NEIGHBOUR: 'it returns false'. Refute it at one input. -/
def pctBackWrong : ChangeSpec := { name := "pctBack", fn := fun _ => fun
  | [d] => { results := [.lit (.bool false)], args := [d] }
  | _ => none }
def PctBackWrongFalsely : Prop := pctBackRow.holds Tryd.pinned (OpenSpec.ofChange pctBackWrong)

/-- 'usherlaw3.PctPairs': WHATEVER THE INPUT: true; the input reads as it did. -/
def pctPairsSpec : ChangeSpec := { name := "pctPairs", fn := fun _ => fun
  | [d] => { results := [.lit (.bool true)], args := [d] }
  | _ => none }
def pctPairsRow : OpenClaim := { program := "ytlnjomhmffdfnaadoor", sum := "ccff97a7f0515f13156e6016a3fab2a6f53bc9e3e04878fc5d47878d97056202", func := "usher/usherlaw3.PctPairs", spec := "pctPairs", inPlace := ["internal/bytealg.CountString", "internal/bytealg.IndexByteString", "internal/bytealg.IndexString"], named := ["usher/api.ErrMany", "unicode/utf8.first", "unicode/utf8.acceptRanges", "internal/bytealg.MaxLen", "usher/api.ErrText", "usher/api.ErrArg", "usher/api.ErrTwice", "usher/api.ErrScheme", "usher/api.ErrShort", "usher/api.ErrDry", "usher/api.ErrTaken", "usher/api.ErrFull", "usher/api.ErrDead", "usher/api.ErrLog", "usher/api.ErrLost", "usher/api.ErrDenied"], apart := false, laid := [("unicode/utf8.acceptRanges", laid_unicode_utf8_acceptRanges), ("usher/api.ErrArg", laid_usher_api_ErrArg), ("usher/api.ErrText", laid_usher_api_ErrText), ("usher/api.ErrMany", laid_usher_api_ErrMany), ("usher/api.ErrTwice", laid_usher_api_ErrTwice), ("usher/api.ErrScheme", laid_usher_api_ErrScheme), ("usher/api.ErrShort", laid_usher_api_ErrShort), ("usher/api.ErrDry", laid_usher_api_ErrDry), ("usher/api.ErrTaken", laid_usher_api_ErrTaken), ("usher/api.ErrFull", laid_usher_api_ErrFull), ("usher/api.ErrDead", laid_usher_api_ErrDead), ("usher/api.ErrLog", laid_usher_api_ErrLog), ("usher/api.ErrLost", laid_usher_api_ErrLost), ("usher/api.ErrDenied", laid_usher_api_ErrDenied), ("unicode/utf8.first", laid_unicode_utf8_first)] }
def PctPairsSaid : Prop := pctPairsRow.holds Tryd.pinned (OpenSpec.ofChange pctPairsSpec)

/-- ITS FALSE NEIGHBOUR: 'it returns false'. Refute it at one input. -/
def pctPairsWrong : ChangeSpec := { name := "pctPairs", fn := fun _ => fun
  | [d] => { results := [.lit (.bool false)], args := [d] }
  | _ => none }
def PctPairsWrongFalsely : Prop := pctPairsRow.holds Tryd.pinned (OpenSpec.ofChange pctPairsWrong)

/-- 'usherlaw3.PctJoin': WHATEVER THE INPUT: true; the input reads as it did. -/
def pctJoinSpec : ChangeSpec := { name := "pctJoin", fn := fun _ => fun
  | [d] => { results := [.lit (.bool true)], args := [d] }
  | _ => none }
def pctJoinRow : OpenClaim := { program := "ytlnjomhmffdfnaadoor", sum := "ccff97a7f0515f13156e6016a3fab2a6f53bc9e3e04878fc5d47878d97056202", func := "usher/usherlaw3.PctJoin", spec := "pctJoin", inPlace := ["internal/bytealg.CountString", "internal/bytealg.IndexByteString", "internal/bytealg.IndexString"], named := ["usher/api.ErrMany", "usher/api.ErrText", "unicode/utf8.first", "unicode/utf8.acceptRanges", "internal/bytealg.MaxLen"], apart := false, laid := [("unicode/utf8.acceptRanges", laid_unicode_utf8_acceptRanges), ("usher/api.ErrText", laid_usher_api_ErrText), ("usher/api.ErrMany", laid_usher_api_ErrMany), ("unicode/utf8.first", laid_unicode_utf8_first)] }
def PctJoinSaid : Prop := pctJoinRow.holds Tryd.pinned (OpenSpec.ofChange pctJoinSpec)

/-- ITS FALSE NEIGHBOUR: 'it returns false'. Refute it at one input. -/
def pctJoinWrong : ChangeSpec := { name := "pctJoin", fn := fun _ => fun
  | [d] => { results := [.lit (.bool false)], args := [d] }
  | _ => none }
def PctJoinWrongFalsely : Prop := pctJoinRow.holds Tryd.pinned (OpenSpec.ofChange pctJoinWrong)

/-- 'usherlaw3.PctFormBack': WHATEVER THE INPUT: true; the input reads as it did. -/
def pctFormBackSpec : ChangeSpec := { name := "pctFormBack", fn := fun _ => fun
  | [d] => { results := [.lit (.bool true)], args := [d] }
  | _ => none }
def pctFormBackRow : OpenClaim := { program := "ytlnjomhmffdfnaadoor", sum := "ccff97a7f0515f13156e6016a3fab2a6f53bc9e3e04878fc5d47878d97056202", func := "usher/usherlaw3.PctFormBack", spec := "pctFormBack", inPlace := ["internal/abi.NoEscape", "internal/bytealg.CountString", "internal/bytealg.IndexByteString", "internal/bytealg.IndexString"], named := ["usher/api.ErrMany", "usher/pct.unreserved", "unicode/utf8.first", "unicode/utf8.acceptRanges", "internal/bytealg.MaxLen", "usher/api.ErrText"], apart := false, laid := [("unicode/utf8.acceptRanges", laid_unicode_utf8_acceptRanges), ("usher/api.ErrText", laid_usher_api_ErrText), ("usher/api.ErrMany", laid_usher_api_ErrMany), ("usher/pct.unreserved", laid_usher_pct_unreserved), ("unicode/utf8.first", laid_unicode_utf8_first)] }
def PctFormBackSaid : Prop := pctFormBackRow.holds Tryd.pinned (OpenSpec.ofChange pctFormBackSpec)

/-- ITS FALSE NEIGHBOUR: 'it returns false'. Refute it at one input. -/
def pctFormBackWrong : ChangeSpec := { name := "pctFormBack", fn := fun _ => fun
  | [d] => { results := [.lit (.bool false)], args := [d] }
  | _ => none }
def PctFormBackWrongFalsely : Prop := pctFormBackRow.holds Tryd.pinned (OpenSpec.ofChange pctFormBackWrong)

/-- 'usherlaw3.PctOnce': WHATEVER THE INPUT: true; the input reads as it did. -/
def pctOnceSpec : ChangeSpec := { name := "pctOnce", fn := fun _ => fun
  | [d] => { results := [.lit (.bool true)], args := [d] }
  | _ => none }
def pctOnceRow : OpenClaim := { program := "ytlnjomhmffdfnaadoor", sum := "ccff97a7f0515f13156e6016a3fab2a6f53bc9e3e04878fc5d47878d97056202", func := "usher/usherlaw3.PctOnce", spec := "pctOnce", inPlace := ["internal/abi.NoEscape", "internal/bytealg.CountString", "internal/bytealg.IndexByteString", "internal/bytealg.IndexString"], named := ["usher/pct.unreserved", "usher/api.ErrMany", "unicode/utf8.first", "unicode/utf8.acceptRanges", "internal/bytealg.MaxLen", "usher/api.ErrText"], apart := false, laid := [("unicode/utf8.acceptRanges", laid_unicode_utf8_acceptRanges), ("usher/api.ErrText", laid_usher_api_ErrText), ("usher/api.ErrMany", laid_usher_api_ErrMany), ("usher/pct.unreserved", laid_usher_pct_unreserved), ("unicode/utf8.first", laid_unicode_utf8_first)] }
def PctOnceSaid : Prop := pctOnceRow.holds Tryd.pinned (OpenSpec.ofChange pctOnceSpec)

/-- ITS FALSE NEIGHBOUR: 'it returns false'. Refute it at one input. -/
def pctOnceWrong : ChangeSpec := { name := "pctOnce", fn := fun _ => fun
  | [d] => { results := [.lit (.bool false)], args := [d] }
  | _ => none }
def PctOnceWrongFalsely : Prop := pctOnceRow.holds Tryd.pinned (OpenSpec.ofChange pctOnceWrong)

/- THE SECOND FORM. 'bulk': how many values and letters a reading holds, each counted each time it is reached (what is shared counts as often as it is met; a slice's spare places count too). A statement '..UptoSaid' is the law's where the arguments, and the package variables that the reading takes, are together of bulk at most 1048576: NARROWER than '..Said'. Prove '..Said' where nothing that the law and all that it calls make is longer than what came in: it says more and counts as full. Else prove '..UptoSaid'. A law counts once. -/
mutual
def uptoBulk {H : Type} : DataW H → Nat
  | .lit (.string bytes) => bytes.length + 1
  | .lit _ => 1
  | .nil => 1
  | .ptr d => uptoBulk d + 1
  | .slice elems spare => uptoBulkAll elems + uptoBulkAll spare + 1
  | .agg parts => uptoBulkAll parts + 1
  | .iface _ d => uptoBulk d + 1
  | .map entries => uptoBulkEntries entries + 1
  | .held _ => 1
def uptoBulkAll {H : Type} : List (DataW H) → Nat
  | [] => 0
  | d :: r => uptoBulk d + uptoBulkAll r
def uptoBulkEntries {H : Type} : List (Lit × DataW H) → Nat
  | [] => 0
  | x :: r => uptoBulkEntry x + uptoBulkEntries r
def uptoBulkEntry {H : Type} : Lit × DataW H → Nat
  | (.string bytes, d) => bytes.length + uptoBulk d + 1
  | (_, d) => uptoBulk d + 1
 end
def uptoSmall : (H : Type) → List (DataW H) → Bool := fun _ ds => decide (uptoBulkAll ds ≤ 1048576)
def OpenSpec.upto (s : _root_.Go.ChangeSpec) : _root_.Go.OpenSpec := { _root_.Go.OpenSpec.ofChange s with cond := some uptoSmall }

/-- 'usherlaw3.PctEscapes', WHERE WHAT IT READS IS OF BULK AT MOST 1048576: true; the input reads as it did. -/
def pctEscapesUptoRow : OpenClaim := { program := "ytlnjomhmffdfnaadoor", sum := "ccff97a7f0515f13156e6016a3fab2a6f53bc9e3e04878fc5d47878d97056202", func := "usher/usherlaw3.PctEscapes", spec := "pctEscapes", inPlace := ["internal/abi.NoEscape"], named := ["usher/pct.unreserved"], apart := false, laid := [("usher/pct.unreserved", laid_usher_pct_unreserved)], narrowed := true }
def PctEscapesUptoSaid : Prop := pctEscapesUptoRow.holds Tryd.pinned (OpenSpec.upto pctEscapesSpec)

/-- 'usherlaw3.PctUnescapes', WHERE WHAT IT READS IS OF BULK AT MOST 1048576: true; the input reads as it did. -/
def pctUnescapesUptoRow : OpenClaim := { program := "ytlnjomhmffdfnaadoor", sum := "ccff97a7f0515f13156e6016a3fab2a6f53bc9e3e04878fc5d47878d97056202", func := "usher/usherlaw3.PctUnescapes", spec := "pctUnescapes", named := ["usher/api.ErrText", "usher/api.ErrArg", "usher/api.ErrMany", "usher/api.ErrTwice", "usher/api.ErrScheme", "usher/api.ErrShort", "usher/api.ErrDry", "usher/api.ErrTaken", "usher/api.ErrFull", "usher/api.ErrDead", "usher/api.ErrLog", "usher/api.ErrLost", "usher/api.ErrDenied"], apart := false, laid := [("usher/api.ErrArg", laid_usher_api_ErrArg), ("usher/api.ErrText", laid_usher_api_ErrText), ("usher/api.ErrMany", laid_usher_api_ErrMany), ("usher/api.ErrTwice", laid_usher_api_ErrTwice), ("usher/api.ErrScheme", laid_usher_api_ErrScheme), ("usher/api.ErrShort", laid_usher_api_ErrShort), ("usher/api.ErrDry", laid_usher_api_ErrDry), ("usher/api.ErrTaken", laid_usher_api_ErrTaken), ("usher/api.ErrFull", laid_usher_api_ErrFull), ("usher/api.ErrDead", laid_usher_api_ErrDead), ("usher/api.ErrLog", laid_usher_api_ErrLog), ("usher/api.ErrLost", laid_usher_api_ErrLost), ("usher/api.ErrDenied", laid_usher_api_ErrDenied)], narrowed := true }
def PctUnescapesUptoSaid : Prop := pctUnescapesUptoRow.holds Tryd.pinned (OpenSpec.upto pctUnescapesSpec)

/-- 'usherlaw3.PctShape', WHERE WHAT IT READS IS OF BULK AT MOST 1048576: true; the input reads as it did. -/
def pctShapeUptoRow : OpenClaim := { program := "ytlnjomhmffdfnaadoor", sum := "ccff97a7f0515f13156e6016a3fab2a6f53bc9e3e04878fc5d47878d97056202", func := "usher/usherlaw3.PctShape", spec := "pctShape", inPlace := ["internal/abi.NoEscape"], named := ["usher/pct.unreserved"], apart := false, laid := [("usher/pct.unreserved", laid_usher_pct_unreserved)], narrowed := true }
def PctShapeUptoSaid : Prop := pctShapeUptoRow.holds Tryd.pinned (OpenSpec.upto pctShapeSpec)

/-- 'usherlaw3.PctRefuses', WHERE WHAT IT READS IS OF BULK AT MOST 1048576: true; the input reads as it did. -/
def pctRefusesUptoRow : OpenClaim := { program := "ytlnjomhmffdfnaadoor", sum := "ccff97a7f0515f13156e6016a3fab2a6f53bc9e3e04878fc5d47878d97056202", func := "usher/usherlaw3.PctRefuses", spec := "pctRefuses", named := ["usher/api.ErrText"], apart := false, laid := [("usher/api.ErrText", laid_usher_api_ErrText)], narrowed := true }
def PctRefusesUptoSaid : Prop := pctRefusesUptoRow.holds Tryd.pinned (OpenSpec.upto pctRefusesSpec)

/-- 'usherlaw3.PctCase', WHERE WHAT IT READS IS OF BULK AT MOST 1048576: true; the input reads as it did. -/
def pctCaseUptoRow : OpenClaim := { program := "ytlnjomhmffdfnaadoor", sum := "ccff97a7f0515f13156e6016a3fab2a6f53bc9e3e04878fc5d47878d97056202", func := "usher/usherlaw3.PctCase", spec := "pctCase", named := ["usher/api.ErrText", "usher/api.ErrArg", "usher/api.ErrMany", "usher/api.ErrTwice", "usher/api.ErrScheme", "usher/api.ErrShort", "usher/api.ErrDry", "usher/api.ErrTaken", "usher/api.ErrFull", "usher/api.ErrDead", "usher/api.ErrLog", "usher/api.ErrLost", "usher/api.ErrDenied"], apart := false, laid := [("usher/api.ErrArg", laid_usher_api_ErrArg), ("usher/api.ErrText", laid_usher_api_ErrText), ("usher/api.ErrMany", laid_usher_api_ErrMany), ("usher/api.ErrTwice", laid_usher_api_ErrTwice), ("usher/api.ErrScheme", laid_usher_api_ErrScheme), ("usher/api.ErrShort", laid_usher_api_ErrShort), ("usher/api.ErrDry", laid_usher_api_ErrDry), ("usher/api.ErrTaken", laid_usher_api_ErrTaken), ("usher/api.ErrFull", laid_usher_api_ErrFull), ("usher/api.ErrDead", laid_usher_api_ErrDead), ("usher/api.ErrLog", laid_usher_api_ErrLog), ("usher/api.ErrLost", laid_usher_api_ErrLost), ("usher/api.ErrDenied", laid_usher_api_ErrDenied)], narrowed := true }
def PctCaseUptoSaid : Prop := pctCaseUptoRow.holds Tryd.pinned (OpenSpec.upto pctCaseSpec)

/-- 'usherlaw3.PctForms', WHERE WHAT IT READS IS OF BULK AT MOST 1048576: true; the input reads as it did. -/
def pctFormsUptoRow : OpenClaim := { program := "ytlnjomhmffdfnaadoor", sum := "ccff97a7f0515f13156e6016a3fab2a6f53bc9e3e04878fc5d47878d97056202", func := "usher/usherlaw3.PctForms", spec := "pctForms", inPlace := ["internal/abi.NoEscape"], named := ["usher/pct.unreserved"], apart := false, laid := [("usher/pct.unreserved", laid_usher_pct_unreserved)], narrowed := true }
def PctFormsUptoSaid : Prop := pctFormsUptoRow.holds Tryd.pinned (OpenSpec.upto pctFormsSpec)

/-- 'usherlaw3.PctBack', WHERE WHAT IT READS IS OF BULK AT MOST 1048576: true; the input reads as it did. -/
def pctBackUptoRow : OpenClaim := { program := "ytlnjomhmffdfnaadoor", sum := "ccff97a7f0515f13156e6016a3fab2a6f53bc9e3e04878fc5d47878d97056202", func := "usher/usherlaw3.PctBack", spec := "pctBack", inPlace := ["internal/abi.NoEscape"], named := ["usher/pct.unreserved", "usher/api.ErrText"], apart := false, laid := [("usher/api.ErrText", laid_usher_api_ErrText), ("usher/pct.unreserved", laid_usher_pct_unreserved)], narrowed := true }
def PctBackUptoSaid : Prop := pctBackUptoRow.holds Tryd.pinned (OpenSpec.upto pctBackSpec)

/-- 'usherlaw3.PctPairs', WHERE WHAT IT READS IS OF BULK AT MOST 1048576: true; the input reads as it did. -/
def pctPairsUptoRow : OpenClaim := { program := "ytlnjomhmffdfnaadoor", sum := "ccff97a7f0515f13156e6016a3fab2a6f53bc9e3e04878fc5d47878d97056202", func := "usher/usherlaw3.PctPairs", spec := "pctPairs", inPlace := ["internal/bytealg.CountString", "internal/bytealg.IndexByteString", "internal/bytealg.IndexString"], named := ["usher/api.ErrMany", "unicode/utf8.first", "unicode/utf8.acceptRanges", "internal/bytealg.MaxLen", "usher/api.ErrText", "usher/api.ErrArg", "usher/api.ErrTwice", "usher/api.ErrScheme", "usher/api.ErrShort", "usher/api.ErrDry", "usher/api.ErrTaken", "usher/api.ErrFull", "usher/api.ErrDead", "usher/api.ErrLog", "usher/api.ErrLost", "usher/api.ErrDenied"], apart := false, laid := [("unicode/utf8.acceptRanges", laid_unicode_utf8_acceptRanges), ("usher/api.ErrArg", laid_usher_api_ErrArg), ("usher/api.ErrText", laid_usher_api_ErrText), ("usher/api.ErrMany", laid_usher_api_ErrMany), ("usher/api.ErrTwice", laid_usher_api_ErrTwice), ("usher/api.ErrScheme", laid_usher_api_ErrScheme), ("usher/api.ErrShort", laid_usher_api_ErrShort), ("usher/api.ErrDry", laid_usher_api_ErrDry), ("usher/api.ErrTaken", laid_usher_api_ErrTaken), ("usher/api.ErrFull", laid_usher_api_ErrFull), ("usher/api.ErrDead", laid_usher_api_ErrDead), ("usher/api.ErrLog", laid_usher_api_ErrLog), ("usher/api.ErrLost", laid_usher_api_ErrLost), ("usher/api.ErrDenied", laid_usher_api_ErrDenied), ("unicode/utf8.first", laid_unicode_utf8_first)], narrowed := true }
def PctPairsUptoSaid : Prop := pctPairsUptoRow.holds Tryd.pinned (OpenSpec.upto pctPairsSpec)

/-- 'usherlaw3.PctJoin', WHERE WHAT IT READS IS OF BULK AT MOST 1048576: true; the input reads as it did. -/
def pctJoinUptoRow : OpenClaim := { program := "ytlnjomhmffdfnaadoor", sum := "ccff97a7f0515f13156e6016a3fab2a6f53bc9e3e04878fc5d47878d97056202", func := "usher/usherlaw3.PctJoin", spec := "pctJoin", inPlace := ["internal/bytealg.CountString", "internal/bytealg.IndexByteString", "internal/bytealg.IndexString"], named := ["usher/api.ErrMany", "usher/api.ErrText", "unicode/utf8.first", "unicode/utf8.acceptRanges", "internal/bytealg.MaxLen"], apart := false, laid := [("unicode/utf8.acceptRanges", laid_unicode_utf8_acceptRanges), ("usher/api.ErrText", laid_usher_api_ErrText), ("usher/api.ErrMany", laid_usher_api_ErrMany), ("unicode/utf8.first", laid_unicode_utf8_first)], narrowed := true }
def PctJoinUptoSaid : Prop := pctJoinUptoRow.holds Tryd.pinned (OpenSpec.upto pctJoinSpec)

/-- 'usherlaw3.PctFormBack', WHERE WHAT IT READS IS OF BULK AT MOST 1048576: true; the input reads as it did. -/
def pctFormBackUptoRow : OpenClaim := { program := "ytlnjomhmffdfnaadoor", sum := "ccff97a7f0515f13156e6016a3fab2a6f53bc9e3e04878fc5d47878d97056202", func := "usher/usherlaw3.PctFormBack", spec := "pctFormBack", inPlace := ["internal/abi.NoEscape", "internal/bytealg.CountString", "internal/bytealg.IndexByteString", "internal/bytealg.IndexString"], named := ["usher/api.ErrMany", "usher/pct.unreserved", "unicode/utf8.first", "unicode/utf8.acceptRanges", "internal/bytealg.MaxLen", "usher/api.ErrText"], apart := false, laid := [("unicode/utf8.acceptRanges", laid_unicode_utf8_acceptRanges), ("usher/api.ErrText", laid_usher_api_ErrText), ("usher/api.ErrMany", laid_usher_api_ErrMany), ("usher/pct.unreserved", laid_usher_pct_unreserved), ("unicode/utf8.first", laid_unicode_utf8_first)], narrowed := true }
def PctFormBackUptoSaid : Prop := pctFormBackUptoRow.holds Tryd.pinned (OpenSpec.upto pctFormBackSpec)

/-- 'usherlaw3.PctOnce', WHERE WHAT IT READS IS OF BULK AT MOST 1048576: true; the input reads as it did. -/
def pctOnceUptoRow : OpenClaim := { program := "ytlnjomhmffdfnaadoor", sum := "ccff97a7f0515f13156e6016a3fab2a6f53bc9e3e04878fc5d47878d97056202", func := "usher/usherlaw3.PctOnce", spec := "pctOnce", inPlace := ["internal/abi.NoEscape", "internal/bytealg.CountString", "internal/bytealg.IndexByteString", "internal/bytealg.IndexString"], named := ["usher/pct.unreserved", "usher/api.ErrMany", "unicode/utf8.first", "unicode/utf8.acceptRanges", "internal/bytealg.MaxLen", "usher/api.ErrText"], apart := false, laid := [("unicode/utf8.acceptRanges", laid_unicode_utf8_acceptRanges), ("usher/api.ErrText", laid_usher_api_ErrText), ("usher/api.ErrMany", laid_usher_api_ErrMany), ("usher/pct.unreserved", laid_usher_pct_unreserved), ("unicode/utf8.first", laid_unicode_utf8_first)], narrowed := true }
def PctOnceUptoSaid : Prop := pctOnceUptoRow.holds Tryd.pinned (OpenSpec.upto pctOnceSpec)

end Rows
end Go.Proofs.YtlnjomhmffdfnaaDoor
