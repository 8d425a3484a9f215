/-
  NARROWER THAN 'FOR EVERY INPUT', by the rows' own cells (each row's printed sentence says how): PageEscapeExact: laid · PageUnescapeExact: laid · PageEscapeBack: laid · PageEscapeOnly: laid · PageWriteExact: laid · PageTags: laid · PageReadExact: laid · PageBack: laid · PageOnly: laid · PageReadMemory: laid · PageBrowser: laid.
  DERIVED. THE GIVEN ROWS OF THIS SEAT. 11 by the template 'for every input the law returns true; each argument reads behind the call as it read before'; 0 by the template 'total and deterministic' (their statements: YtmaedmmcjhmheaaDoorTotals.lean).
  GIVEN WITH THE SEED: the statements are not yours to turn. If you find one false, say at which input.
  Laid BY PROGRAM, IN A SANDBOX (cutbox-rows.mjs): the forced cells as the released guide's own fill.sh prints them over the translation fe67e5b3c04dfa27… (all of the seat's roots in one cut). By AI agents, Wed Nov 11 2026. No macro, syntax, notation, axiom, sorry.
-/
import Derived.Test.YtmaedmmcjhmheaaDoorChecked
import GoSem.PinnedTables
import GoSem.Claim
import GoSem.ClaimJoined
import GoSem.ClaimMapViews
import Derived.JoinedTies
import Derived.KernelRfl
namespace Go.Proofs.YtmaedmmcjhmheaaDoor
/- THE CELL 'sum', in the pinned program and in every row, IS THE sha256 OF THE DUMP (.gsa) THAT YtmaedmmcjhmheaaDoorProg.lean LOADS. Nothing in Lean hashes anything: it is a label: what it is worth is what the hold of that sum in a sandbox is worth. -/
noncomputable def Tryd.pinned : Pinned := { name := "ytmaedmmcjhmheaadoor", sum := "fe67e5b3c04dfa271fada49cac87dbeecc633c6834a46ccc76480be3cb5e0688", checked := Tryd.checked }
namespace Rows
def none {H : Type} : Left H := { results := [], args := [] }

/- WHAT THE LISTED PACKAGE-LEVEL VARIABLES READ AS WHEN THE CALL BEGINS. Each datum BY PROGRAM (the guide's laid-datum.mjs) off the statement by which the dump's own 'gosem.cut.vars' lays the variable. In a bare row this is a premise. The card (YtmaedmmcjhmheaaDoorCards.lean) ties it to the program's text. -/
def laid_usher_page_escapes {H : Type} : DataW H := .agg [.agg [.lit (.int .u8 38), .lit (.string [38, 97, 109, 112, 59])], .agg [.lit (.int .u8 60), .lit (.string [38, 108, 116, 59])], .agg [.lit (.int .u8 62), .lit (.string [38, 103, 116, 59])], .agg [.lit (.int .u8 34), .lit (.string [38, 113, 117, 111, 116, 59])], .agg [.lit (.int .u8 39), .lit (.string [38, 35, 51, 57, 59])]]
def laid_usher_api_ErrArg {H : Type} : DataW H := .iface "*errors.errorString" (.ptr (.agg [.lit (.string [97, 114, 103, 117, 109, 101, 110, 116])]))
def laid_usher_api_ErrText {H : Type} : DataW H := .iface "*errors.errorString" (.ptr (.agg [.lit (.string [116, 101, 120, 116])]))
def laid_usher_api_ErrMany {H : Type} : DataW H := .iface "*errors.errorString" (.ptr (.agg [.lit (.string [109, 97, 110, 121])]))
def laid_usher_api_ErrTwice {H : Type} : DataW H := .iface "*errors.errorString" (.ptr (.agg [.lit (.string [116, 119, 105, 99, 101])]))
def laid_usher_api_ErrScheme {H : Type} : DataW H := .iface "*errors.errorString" (.ptr (.agg [.lit (.string [115, 99, 104, 101, 109, 101])]))
def laid_usher_api_ErrShort {H : Type} : DataW H := .iface "*errors.errorString" (.ptr (.agg [.lit (.string [115, 104, 111, 114, 116])]))
def laid_usher_api_ErrDry {H : Type} : DataW H := .iface "*errors.errorString" (.ptr (.agg [.lit (.string [100, 114, 121])]))
def laid_usher_api_ErrTaken {H : Type} : DataW H := .iface "*errors.errorString" (.ptr (.agg [.lit (.string [116, 97, 107, 101, 110])]))
def laid_usher_api_ErrFull {H : Type} : DataW H := .iface "*errors.errorString" (.ptr (.agg [.lit (.string [102, 117, 108, 108])]))
def laid_usher_api_ErrDead {H : Type} : DataW H := .iface "*errors.errorString" (.ptr (.agg [.lit (.string [100, 101, 97, 100])]))
def laid_usher_api_ErrLog {H : Type} : DataW H := .iface "*errors.errorString" (.ptr (.agg [.lit (.string [108, 111, 103])]))
def laid_usher_api_ErrLost {H : Type} : DataW H := .iface "*errors.errorString" (.ptr (.agg [.lit (.string [108, 111, 115, 116])]))
def laid_usher_api_ErrDenied {H : Type} : DataW H := .iface "*errors.errorString" (.ptr (.agg [.lit (.string [100, 101, 110, 105, 101, 100])]))
def laid_unicode_utf8_acceptRanges {H : Type} : DataW H := .agg [.agg [.lit (.int .u8 128), .lit (.int .u8 191)], .agg [.lit (.int .u8 160), .lit (.int .u8 191)], .agg [.lit (.int .u8 128), .lit (.int .u8 159)], .agg [.lit (.int .u8 144), .lit (.int .u8 191)], .agg [.lit (.int .u8 128), .lit (.int .u8 143)], .agg [.lit (.int .u8 0), .lit (.int .u8 0)], .agg [.lit (.int .u8 0), .lit (.int .u8 0)], .agg [.lit (.int .u8 0), .lit (.int .u8 0)], .agg [.lit (.int .u8 0), .lit (.int .u8 0)], .agg [.lit (.int .u8 0), .lit (.int .u8 0)], .agg [.lit (.int .u8 0), .lit (.int .u8 0)], .agg [.lit (.int .u8 0), .lit (.int .u8 0)], .agg [.lit (.int .u8 0), .lit (.int .u8 0)], .agg [.lit (.int .u8 0), .lit (.int .u8 0)], .agg [.lit (.int .u8 0), .lit (.int .u8 0)], .agg [.lit (.int .u8 0), .lit (.int .u8 0)]]
def laid_usher_pct_unreserved {H : Type} : DataW H := .agg [.lit (.int .u32 0), .lit (.int .u32 67067904), .lit (.int .u32 2281701374), .lit (.int .u32 1207959550)]
/-- One of Go's own tables, pinned by name: the form's constant. -/
def laid_unicode_utf8_first : DataW Unit := Go.Pinned.utf8First

/-- 'usherlaw5.PageEscapeExact': WHATEVER THE INPUT: true; the input reads as it did. -/
def pageEscapeExactSpec : ChangeSpec := { name := "pageEscapeExact", fn := fun _ => fun
  | [d] => { results := [.lit (.bool true)], args := [d] }
  | _ => none }
def pageEscapeExactRow : OpenClaim := { program := "ytmaedmmcjhmheaadoor", sum := "fe67e5b3c04dfa271fada49cac87dbeecc633c6834a46ccc76480be3cb5e0688", func := "usher/usherlaw5.PageEscapeExact", spec := "pageEscapeExact", inPlace := ["internal/abi.NoEscape"], named := ["usher/page.escapes"], apart := false, laid := [("usher/page.escapes", laid_usher_page_escapes)] }
def PageEscapeExactSaid : Prop := pageEscapeExactRow.holds Tryd.pinned (OpenSpec.ofChange pageEscapeExactSpec)

/-- ITS FALSE NEIGHBOUR: 'it returns false'. Refute it at one input. -/
def pageEscapeExactWrong : ChangeSpec := { name := "pageEscapeExact", fn := fun _ => fun
  | [d] => { results := [.lit (.bool false)], args := [d] }
  | _ => none }
def PageEscapeExactWrongFalsely : Prop := pageEscapeExactRow.holds Tryd.pinned (OpenSpec.ofChange pageEscapeExactWrong)

/-- 'usherlaw5.PageUnescapeExact': WHATEVER THE INPUT: true; the input reads as it did. -/
def pageUnescapeExactSpec : ChangeSpec := { name := "pageUnescapeExact", fn := fun _ => fun
  | [d] => { results := [.lit (.bool true)], args := [d] }
  | _ => none }
def pageUnescapeExactRow : OpenClaim := { program := "ytmaedmmcjhmheaadoor", sum := "fe67e5b3c04dfa271fada49cac87dbeecc633c6834a46ccc76480be3cb5e0688", func := "usher/usherlaw5.PageUnescapeExact", spec := "pageUnescapeExact", inPlace := ["internal/abi.NoEscape"], named := ["usher/page.escapes", "usher/api.ErrText", "usher/api.ErrArg", "usher/api.ErrMany", "usher/api.ErrTwice", "usher/api.ErrScheme", "usher/api.ErrShort", "usher/api.ErrDry", "usher/api.ErrTaken", "usher/api.ErrFull", "usher/api.ErrDead", "usher/api.ErrLog", "usher/api.ErrLost", "usher/api.ErrDenied"], apart := false, laid := [("usher/api.ErrArg", laid_usher_api_ErrArg), ("usher/api.ErrText", laid_usher_api_ErrText), ("usher/api.ErrMany", laid_usher_api_ErrMany), ("usher/api.ErrTwice", laid_usher_api_ErrTwice), ("usher/api.ErrScheme", laid_usher_api_ErrScheme), ("usher/api.ErrShort", laid_usher_api_ErrShort), ("usher/api.ErrDry", laid_usher_api_ErrDry), ("usher/api.ErrTaken", laid_usher_api_ErrTaken), ("usher/api.ErrFull", laid_usher_api_ErrFull), ("usher/api.ErrDead", laid_usher_api_ErrDead), ("usher/api.ErrLog", laid_usher_api_ErrLog), ("usher/api.ErrLost", laid_usher_api_ErrLost), ("usher/api.ErrDenied", laid_usher_api_ErrDenied), ("usher/page.escapes", laid_usher_page_escapes)] }
def PageUnescapeExactSaid : Prop := pageUnescapeExactRow.holds Tryd.pinned (OpenSpec.ofChange pageUnescapeExactSpec)

/-- ITS FALSE NEIGHBOUR: 'it returns false'. Refute it at one input. -/
def pageUnescapeExactWrong : ChangeSpec := { name := "pageUnescapeExact", fn := fun _ => fun
  | [d] => { results := [.lit (.bool false)], args := [d] }
  | _ => none }
def PageUnescapeExactWrongFalsely : Prop := pageUnescapeExactRow.holds Tryd.pinned (OpenSpec.ofChange pageUnescapeExactWrong)

/-- 'usherlaw5.PageEscapeBack': WHATEVER THE INPUT: true; the input reads as it did. -/
def pageEscapeBackSpec : ChangeSpec := { name := "pageEscapeBack", fn := fun _ => fun
  | [d] => { results := [.lit (.bool true)], args := [d] }
  | _ => none }
def pageEscapeBackRow : OpenClaim := { program := "ytmaedmmcjhmheaadoor", sum := "fe67e5b3c04dfa271fada49cac87dbeecc633c6834a46ccc76480be3cb5e0688", func := "usher/usherlaw5.PageEscapeBack", spec := "pageEscapeBack", inPlace := ["internal/abi.NoEscape"], named := ["usher/page.escapes", "usher/api.ErrText"], apart := false, laid := [("usher/api.ErrText", laid_usher_api_ErrText), ("usher/page.escapes", laid_usher_page_escapes)] }
def PageEscapeBackSaid : Prop := pageEscapeBackRow.holds Tryd.pinned (OpenSpec.ofChange pageEscapeBackSpec)

/-- ITS FALSE NEIGHBOUR: 'it returns false'. Refute it at one input. -/
def pageEscapeBackWrong : ChangeSpec := { name := "pageEscapeBack", fn := fun _ => fun
  | [d] => { results := [.lit (.bool false)], args := [d] }
  | _ => none }
def PageEscapeBackWrongFalsely : Prop := pageEscapeBackRow.holds Tryd.pinned (OpenSpec.ofChange pageEscapeBackWrong)

/-- 'usherlaw5.PageEscapeOnly': WHATEVER THE INPUT: true; the input reads as it did. -/
def pageEscapeOnlySpec : ChangeSpec := { name := "pageEscapeOnly", fn := fun _ => fun
  | [d] => { results := [.lit (.bool true)], args := [d] }
  | _ => none }
def pageEscapeOnlyRow : OpenClaim := { program := "ytmaedmmcjhmheaadoor", sum := "fe67e5b3c04dfa271fada49cac87dbeecc633c6834a46ccc76480be3cb5e0688", func := "usher/usherlaw5.PageEscapeOnly", spec := "pageEscapeOnly", inPlace := ["internal/abi.NoEscape"], named := ["usher/page.escapes", "usher/api.ErrText", "usher/api.ErrArg", "usher/api.ErrMany", "usher/api.ErrTwice", "usher/api.ErrScheme", "usher/api.ErrShort", "usher/api.ErrDry", "usher/api.ErrTaken", "usher/api.ErrFull", "usher/api.ErrDead", "usher/api.ErrLog", "usher/api.ErrLost", "usher/api.ErrDenied"], apart := false, laid := [("usher/api.ErrArg", laid_usher_api_ErrArg), ("usher/api.ErrText", laid_usher_api_ErrText), ("usher/api.ErrMany", laid_usher_api_ErrMany), ("usher/api.ErrTwice", laid_usher_api_ErrTwice), ("usher/api.ErrScheme", laid_usher_api_ErrScheme), ("usher/api.ErrShort", laid_usher_api_ErrShort), ("usher/api.ErrDry", laid_usher_api_ErrDry), ("usher/api.ErrTaken", laid_usher_api_ErrTaken), ("usher/api.ErrFull", laid_usher_api_ErrFull), ("usher/api.ErrDead", laid_usher_api_ErrDead), ("usher/api.ErrLog", laid_usher_api_ErrLog), ("usher/api.ErrLost", laid_usher_api_ErrLost), ("usher/api.ErrDenied", laid_usher_api_ErrDenied), ("usher/page.escapes", laid_usher_page_escapes)] }
def PageEscapeOnlySaid : Prop := pageEscapeOnlyRow.holds Tryd.pinned (OpenSpec.ofChange pageEscapeOnlySpec)

/-- ITS FALSE NEIGHBOUR: 'it returns false'. Refute it at one input. -/
def pageEscapeOnlyWrong : ChangeSpec := { name := "pageEscapeOnly", fn := fun _ => fun
  | [d] => { results := [.lit (.bool false)], args := [d] }
  | _ => none }
def PageEscapeOnlyWrongFalsely : Prop := pageEscapeOnlyRow.holds Tryd.pinned (OpenSpec.ofChange pageEscapeOnlyWrong)

/-- 'usherlaw5.PageWriteExact': WHATEVER THE INPUT: true; the input reads as it did. -/
def pageWriteExactSpec : ChangeSpec := { name := "pageWriteExact", fn := fun _ => fun
  | [d] => { results := [.lit (.bool true)], args := [d] }
  | _ => none }
def pageWriteExactRow : OpenClaim := { program := "ytmaedmmcjhmheaadoor", sum := "fe67e5b3c04dfa271fada49cac87dbeecc633c6834a46ccc76480be3cb5e0688", func := "usher/usherlaw5.PageWriteExact", spec := "pageWriteExact", inPlace := ["internal/abi.NoEscape"], unfollowed := true, recurses := true, named := ["usher/api.ErrArg", "usher/page.escapes", "usher/api.ErrText", "usher/api.ErrMany", "usher/api.ErrTwice", "usher/api.ErrScheme", "usher/api.ErrShort", "usher/api.ErrDry", "usher/api.ErrTaken", "usher/api.ErrFull", "usher/api.ErrDead", "usher/api.ErrLog", "usher/api.ErrLost", "usher/api.ErrDenied"], apart := false, laid := [("usher/api.ErrArg", laid_usher_api_ErrArg), ("usher/api.ErrText", laid_usher_api_ErrText), ("usher/api.ErrMany", laid_usher_api_ErrMany), ("usher/api.ErrTwice", laid_usher_api_ErrTwice), ("usher/api.ErrScheme", laid_usher_api_ErrScheme), ("usher/api.ErrShort", laid_usher_api_ErrShort), ("usher/api.ErrDry", laid_usher_api_ErrDry), ("usher/api.ErrTaken", laid_usher_api_ErrTaken), ("usher/api.ErrFull", laid_usher_api_ErrFull), ("usher/api.ErrDead", laid_usher_api_ErrDead), ("usher/api.ErrLog", laid_usher_api_ErrLog), ("usher/api.ErrLost", laid_usher_api_ErrLost), ("usher/api.ErrDenied", laid_usher_api_ErrDenied), ("usher/page.escapes", laid_usher_page_escapes)] }
def PageWriteExactSaid : Prop := pageWriteExactRow.holds Tryd.pinned (OpenSpec.ofChange pageWriteExactSpec)

/-- ITS FALSE NEIGHBOUR: 'it returns false'. Refute it at one input. -/
def pageWriteExactWrong : ChangeSpec := { name := "pageWriteExact", fn := fun _ => fun
  | [d] => { results := [.lit (.bool false)], args := [d] }
  | _ => none }
def PageWriteExactWrongFalsely : Prop := pageWriteExactRow.holds Tryd.pinned (OpenSpec.ofChange pageWriteExactWrong)

/-- 'usherlaw5.PageTags': WHATEVER THE INPUT: true; the input reads as it did. -/
def pageTagsSpec : ChangeSpec := { name := "pageTags", fn := fun _ => fun
  | [d] => { results := [.lit (.bool true)], args := [d] }
  | _ => none }
def pageTagsRow : OpenClaim := { program := "ytmaedmmcjhmheaadoor", sum := "fe67e5b3c04dfa271fada49cac87dbeecc633c6834a46ccc76480be3cb5e0688", func := "usher/usherlaw5.PageTags", spec := "pageTags", inPlace := ["internal/abi.NoEscape"], unfollowed := true, recurses := true, named := ["usher/api.ErrArg", "usher/page.escapes"], apart := false, laid := [("usher/api.ErrArg", laid_usher_api_ErrArg), ("usher/page.escapes", laid_usher_page_escapes)] }
def PageTagsSaid : Prop := pageTagsRow.holds Tryd.pinned (OpenSpec.ofChange pageTagsSpec)

/-- ITS FALSE NEIGHBOUR: 'it returns false'. Refute it at one input. -/
def pageTagsWrong : ChangeSpec := { name := "pageTags", fn := fun _ => fun
  | [d] => { results := [.lit (.bool false)], args := [d] }
  | _ => none }
def PageTagsWrongFalsely : Prop := pageTagsRow.holds Tryd.pinned (OpenSpec.ofChange pageTagsWrong)

/-- 'usherlaw5.PageReadExact': WHATEVER THE INPUT: true; the input reads as it did. -/
def pageReadExactSpec : ChangeSpec := { name := "pageReadExact", fn := fun _ => fun
  | [d] => { results := [.lit (.bool true)], args := [d] }
  | _ => none }
def pageReadExactRow : OpenClaim := { program := "ytmaedmmcjhmheaadoor", sum := "fe67e5b3c04dfa271fada49cac87dbeecc633c6834a46ccc76480be3cb5e0688", func := "usher/usherlaw5.PageReadExact", spec := "pageReadExact", inPlace := ["internal/bytealg.IndexByteString", "internal/abi.NoEscape"], unfollowed := true, recurses := true, named := ["usher/api.ErrText", "usher/page.escapes", "usher/api.ErrArg", "usher/api.ErrMany", "usher/api.ErrTwice", "usher/api.ErrScheme", "usher/api.ErrShort", "usher/api.ErrDry", "usher/api.ErrTaken", "usher/api.ErrFull", "usher/api.ErrDead", "usher/api.ErrLog", "usher/api.ErrLost", "usher/api.ErrDenied"], apart := false, laid := [("usher/api.ErrArg", laid_usher_api_ErrArg), ("usher/api.ErrText", laid_usher_api_ErrText), ("usher/api.ErrMany", laid_usher_api_ErrMany), ("usher/api.ErrTwice", laid_usher_api_ErrTwice), ("usher/api.ErrScheme", laid_usher_api_ErrScheme), ("usher/api.ErrShort", laid_usher_api_ErrShort), ("usher/api.ErrDry", laid_usher_api_ErrDry), ("usher/api.ErrTaken", laid_usher_api_ErrTaken), ("usher/api.ErrFull", laid_usher_api_ErrFull), ("usher/api.ErrDead", laid_usher_api_ErrDead), ("usher/api.ErrLog", laid_usher_api_ErrLog), ("usher/api.ErrLost", laid_usher_api_ErrLost), ("usher/api.ErrDenied", laid_usher_api_ErrDenied), ("usher/page.escapes", laid_usher_page_escapes)] }
def PageReadExactSaid : Prop := pageReadExactRow.holds Tryd.pinned (OpenSpec.ofChange pageReadExactSpec)

/-- ITS FALSE NEIGHBOUR: 'it returns false'. Refute it at one input. -/
def pageReadExactWrong : ChangeSpec := { name := "pageReadExact", fn := fun _ => fun
  | [d] => { results := [.lit (.bool false)], args := [d] }
  | _ => none }
def PageReadExactWrongFalsely : Prop := pageReadExactRow.holds Tryd.pinned (OpenSpec.ofChange pageReadExactWrong)

/-- 'usherlaw5.PageBack': WHATEVER THE INPUT: true; the input reads as it did. -/
def pageBackSpec : ChangeSpec := { name := "pageBack", fn := fun _ => fun
  | [d] => { results := [.lit (.bool true)], args := [d] }
  | _ => none }
def pageBackRow : OpenClaim := { program := "ytmaedmmcjhmheaadoor", sum := "fe67e5b3c04dfa271fada49cac87dbeecc633c6834a46ccc76480be3cb5e0688", func := "usher/usherlaw5.PageBack", spec := "pageBack", inPlace := ["internal/abi.NoEscape", "internal/bytealg.IndexByteString"], unfollowed := true, recurses := true, named := ["usher/api.ErrArg", "usher/page.escapes", "usher/api.ErrText", "usher/api.ErrMany", "usher/api.ErrTwice", "usher/api.ErrScheme", "usher/api.ErrShort", "usher/api.ErrDry", "usher/api.ErrTaken", "usher/api.ErrFull", "usher/api.ErrDead", "usher/api.ErrLog", "usher/api.ErrLost", "usher/api.ErrDenied"], apart := false, laid := [("usher/api.ErrArg", laid_usher_api_ErrArg), ("usher/api.ErrText", laid_usher_api_ErrText), ("usher/api.ErrMany", laid_usher_api_ErrMany), ("usher/api.ErrTwice", laid_usher_api_ErrTwice), ("usher/api.ErrScheme", laid_usher_api_ErrScheme), ("usher/api.ErrShort", laid_usher_api_ErrShort), ("usher/api.ErrDry", laid_usher_api_ErrDry), ("usher/api.ErrTaken", laid_usher_api_ErrTaken), ("usher/api.ErrFull", laid_usher_api_ErrFull), ("usher/api.ErrDead", laid_usher_api_ErrDead), ("usher/api.ErrLog", laid_usher_api_ErrLog), ("usher/api.ErrLost", laid_usher_api_ErrLost), ("usher/api.ErrDenied", laid_usher_api_ErrDenied), ("usher/page.escapes", laid_usher_page_escapes)] }
def PageBackSaid : Prop := pageBackRow.holds Tryd.pinned (OpenSpec.ofChange pageBackSpec)

/-- ITS FALSE NEIGHBOUR: 'it returns false'. Refute it at one input. -/
def pageBackWrong : ChangeSpec := { name := "pageBack", fn := fun _ => fun
  | [d] => { results := [.lit (.bool false)], args := [d] }
  | _ => none }
def PageBackWrongFalsely : Prop := pageBackRow.holds Tryd.pinned (OpenSpec.ofChange pageBackWrong)

/-- 'usherlaw5.PageOnly': WHATEVER THE INPUT: true; the input reads as it did. -/
def pageOnlySpec : ChangeSpec := { name := "pageOnly", fn := fun _ => fun
  | [d] => { results := [.lit (.bool true)], args := [d] }
  | _ => none }
def pageOnlyRow : OpenClaim := { program := "ytmaedmmcjhmheaadoor", sum := "fe67e5b3c04dfa271fada49cac87dbeecc633c6834a46ccc76480be3cb5e0688", func := "usher/usherlaw5.PageOnly", spec := "pageOnly", inPlace := ["internal/abi.NoEscape", "internal/bytealg.IndexByteString"], unfollowed := true, recurses := true, named := ["usher/api.ErrArg", "usher/page.escapes", "usher/api.ErrText", "usher/api.ErrMany", "usher/api.ErrTwice", "usher/api.ErrScheme", "usher/api.ErrShort", "usher/api.ErrDry", "usher/api.ErrTaken", "usher/api.ErrFull", "usher/api.ErrDead", "usher/api.ErrLog", "usher/api.ErrLost", "usher/api.ErrDenied"], apart := false, laid := [("usher/api.ErrArg", laid_usher_api_ErrArg), ("usher/api.ErrText", laid_usher_api_ErrText), ("usher/api.ErrMany", laid_usher_api_ErrMany), ("usher/api.ErrTwice", laid_usher_api_ErrTwice), ("usher/api.ErrScheme", laid_usher_api_ErrScheme), ("usher/api.ErrShort", laid_usher_api_ErrShort), ("usher/api.ErrDry", laid_usher_api_ErrDry), ("usher/api.ErrTaken", laid_usher_api_ErrTaken), ("usher/api.ErrFull", laid_usher_api_ErrFull), ("usher/api.ErrDead", laid_usher_api_ErrDead), ("usher/api.ErrLog", laid_usher_api_ErrLog), ("usher/api.ErrLost", laid_usher_api_ErrLost), ("usher/api.ErrDenied", laid_usher_api_ErrDenied), ("usher/page.escapes", laid_usher_page_escapes)] }
def PageOnlySaid : Prop := pageOnlyRow.holds Tryd.pinned (OpenSpec.ofChange pageOnlySpec)

/-- ITS FALSE NEIGHBOUR: 'it returns false'. Refute it at one input. -/
def pageOnlyWrong : ChangeSpec := { name := "pageOnly", fn := fun _ => fun
  | [d] => { results := [.lit (.bool false)], args := [d] }
  | _ => none }
def PageOnlyWrongFalsely : Prop := pageOnlyRow.holds Tryd.pinned (OpenSpec.ofChange pageOnlyWrong)

/-- 'usherlaw5.PageReadMemory': WHATEVER THE INPUT: true; the input reads as it did. -/
def pageReadMemorySpec : ChangeSpec := { name := "pageReadMemory", fn := fun _ => fun
  | [d] => { results := [.lit (.bool true)], args := [d] }
  | _ => none }
def pageReadMemoryRow : OpenClaim := { program := "ytmaedmmcjhmheaadoor", sum := "fe67e5b3c04dfa271fada49cac87dbeecc633c6834a46ccc76480be3cb5e0688", func := "usher/usherlaw5.PageReadMemory", spec := "pageReadMemory", inPlace := ["internal/abi.NoEscape", "internal/bytealg.IndexByteString"], unfollowed := true, recurses := true, named := ["usher/api.ErrArg", "usher/page.escapes", "usher/api.ErrText"], apart := false, laid := [("usher/api.ErrArg", laid_usher_api_ErrArg), ("usher/api.ErrText", laid_usher_api_ErrText), ("usher/page.escapes", laid_usher_page_escapes)] }
def PageReadMemorySaid : Prop := pageReadMemoryRow.holds Tryd.pinned (OpenSpec.ofChange pageReadMemorySpec)

/-- ITS FALSE NEIGHBOUR: 'it returns false'. Refute it at one input. -/
def pageReadMemoryWrong : ChangeSpec := { name := "pageReadMemory", fn := fun _ => fun
  | [d] => { results := [.lit (.bool false)], args := [d] }
  | _ => none }
def PageReadMemoryWrongFalsely : Prop := pageReadMemoryRow.holds Tryd.pinned (OpenSpec.ofChange pageReadMemoryWrong)

/-- 'usherlaw5.PageBrowser': WHATEVER THE INPUT: true; the input reads as it did. -/
def pageBrowserSpec : ChangeSpec := { name := "pageBrowser", fn := fun _ => fun
  | [d] => { results := [.lit (.bool true)], args := [d] }
  | _ => none }
def pageBrowserRow : OpenClaim := { program := "ytmaedmmcjhmheaadoor", sum := "fe67e5b3c04dfa271fada49cac87dbeecc633c6834a46ccc76480be3cb5e0688", func := "usher/usherlaw5.PageBrowser", spec := "pageBrowser", inPlace := ["internal/abi.NoEscape", "internal/bytealg.IndexByteString", "internal/bytealg.CountString", "internal/bytealg.IndexString"], unfollowed := true, recurses := true, named := ["usher/api.ErrArg", "usher/page.escapes", "usher/api.ErrText", "usher/pct.unreserved", "usher/api.ErrMany", "unicode/utf8.first", "unicode/utf8.acceptRanges", "internal/bytealg.MaxLen"], apart := false, laid := [("unicode/utf8.acceptRanges", laid_unicode_utf8_acceptRanges), ("usher/api.ErrArg", laid_usher_api_ErrArg), ("usher/api.ErrText", laid_usher_api_ErrText), ("usher/api.ErrMany", laid_usher_api_ErrMany), ("usher/page.escapes", laid_usher_page_escapes), ("usher/pct.unreserved", laid_usher_pct_unreserved), ("unicode/utf8.first", laid_unicode_utf8_first)] }
def PageBrowserSaid : Prop := pageBrowserRow.holds Tryd.pinned (OpenSpec.ofChange pageBrowserSpec)

/-- ITS FALSE NEIGHBOUR: 'it returns false'. Refute it at one input. -/
def pageBrowserWrong : ChangeSpec := { name := "pageBrowser", fn := fun _ => fun
  | [d] => { results := [.lit (.bool false)], args := [d] }
  | _ => none }
def PageBrowserWrongFalsely : Prop := pageBrowserRow.holds Tryd.pinned (OpenSpec.ofChange pageBrowserWrong)

/- THE SECOND FORM. 'bulk': how many values and letters a reading holds, each counted each time it is reached (what is shared counts as often as it is met; a slice's spare places count too). A statement '..UptoSaid' is the law's where the arguments, and the package variables that the reading takes, are together of bulk at most 1048576: NARROWER than '..Said'. Prove '..Said' where nothing that the law and all that it calls make is longer than what came in: it says more and counts as full. Else prove '..UptoSaid'. A law counts once. -/
mutual
def uptoBulk {H : Type} : DataW H → Nat
  | .lit (.string bytes) => bytes.length + 1
  | .lit _ => 1
  | .nil => 1
  | .ptr d => uptoBulk d + 1
  | .slice elems spare => uptoBulkAll elems + uptoBulkAll spare + 1
  | .agg parts => uptoBulkAll parts + 1
  | .iface _ d => uptoBulk d + 1
  | .map entries => uptoBulkEntries entries + 1
  | .held _ => 1
def uptoBulkAll {H : Type} : List (DataW H) → Nat
  | [] => 0
  | d :: r => uptoBulk d + uptoBulkAll r
def uptoBulkEntries {H : Type} : List (Lit × DataW H) → Nat
  | [] => 0
  | x :: r => uptoBulkEntry x + uptoBulkEntries r
def uptoBulkEntry {H : Type} : Lit × DataW H → Nat
  | (.string bytes, d) => bytes.length + uptoBulk d + 1
  | (_, d) => uptoBulk d + 1
 end
def uptoSmall : (H : Type) → List (DataW H) → Bool := fun _ ds => decide (uptoBulkAll ds ≤ 1048576)
def OpenSpec.upto (s : _root_.Go.ChangeSpec) : _root_.Go.OpenSpec := { _root_.Go.OpenSpec.ofChange s with cond := some uptoSmall }

/-- 'usherlaw5.PageEscapeExact', WHERE WHAT IT READS IS OF BULK AT MOST 1048576: true; the input reads as it did. -/
def pageEscapeExactUptoRow : OpenClaim := { program := "ytmaedmmcjhmheaadoor", sum := "fe67e5b3c04dfa271fada49cac87dbeecc633c6834a46ccc76480be3cb5e0688", func := "usher/usherlaw5.PageEscapeExact", spec := "pageEscapeExact", inPlace := ["internal/abi.NoEscape"], named := ["usher/page.escapes"], apart := false, laid := [("usher/page.escapes", laid_usher_page_escapes)], narrowed := true }
def PageEscapeExactUptoSaid : Prop := pageEscapeExactUptoRow.holds Tryd.pinned (OpenSpec.upto pageEscapeExactSpec)

/-- 'usherlaw5.PageUnescapeExact', WHERE WHAT IT READS IS OF BULK AT MOST 1048576: true; the input reads as it did. -/
def pageUnescapeExactUptoRow : OpenClaim := { program := "ytmaedmmcjhmheaadoor", sum := "fe67e5b3c04dfa271fada49cac87dbeecc633c6834a46ccc76480be3cb5e0688", func := "usher/usherlaw5.PageUnescapeExact", spec := "pageUnescapeExact", inPlace := ["internal/abi.NoEscape"], named := ["usher/page.escapes", "usher/api.ErrText", "usher/api.ErrArg", "usher/api.ErrMany", "usher/api.ErrTwice", "usher/api.ErrScheme", "usher/api.ErrShort", "usher/api.ErrDry", "usher/api.ErrTaken", "usher/api.ErrFull", "usher/api.ErrDead", "usher/api.ErrLog", "usher/api.ErrLost", "usher/api.ErrDenied"], apart := false, laid := [("usher/api.ErrArg", laid_usher_api_ErrArg), ("usher/api.ErrText", laid_usher_api_ErrText), ("usher/api.ErrMany", laid_usher_api_ErrMany), ("usher/api.ErrTwice", laid_usher_api_ErrTwice), ("usher/api.ErrScheme", laid_usher_api_ErrScheme), ("usher/api.ErrShort", laid_usher_api_ErrShort), ("usher/api.ErrDry", laid_usher_api_ErrDry), ("usher/api.ErrTaken", laid_usher_api_ErrTaken), ("usher/api.ErrFull", laid_usher_api_ErrFull), ("usher/api.ErrDead", laid_usher_api_ErrDead), ("usher/api.ErrLog", laid_usher_api_ErrLog), ("usher/api.ErrLost", laid_usher_api_ErrLost), ("usher/api.ErrDenied", laid_usher_api_ErrDenied), ("usher/page.escapes", laid_usher_page_escapes)], narrowed := true }
def PageUnescapeExactUptoSaid : Prop := pageUnescapeExactUptoRow.holds Tryd.pinned (OpenSpec.upto pageUnescapeExactSpec)

/-- 'usherlaw5.PageEscapeBack', WHERE WHAT IT READS IS OF BULK AT MOST 1048576: true; the input reads as it did. -/
def pageEscapeBackUptoRow : OpenClaim := { program := "ytmaedmmcjhmheaadoor", sum := "fe67e5b3c04dfa271fada49cac87dbeecc633c6834a46ccc76480be3cb5e0688", func := "usher/usherlaw5.PageEscapeBack", spec := "pageEscapeBack", inPlace := ["internal/abi.NoEscape"], named := ["usher/page.escapes", "usher/api.ErrText"], apart := false, laid := [("usher/api.ErrText", laid_usher_api_ErrText), ("usher/page.escapes", laid_usher_page_escapes)], narrowed := true }
def PageEscapeBackUptoSaid : Prop := pageEscapeBackUptoRow.holds Tryd.pinned (OpenSpec.upto pageEscapeBackSpec)

/-- 'usherlaw5.PageEscapeOnly', WHERE WHAT IT READS IS OF BULK AT MOST 1048576: true; the input reads as it did. -/
def pageEscapeOnlyUptoRow : OpenClaim := { program := "ytmaedmmcjhmheaadoor", sum := "fe67e5b3c04dfa271fada49cac87dbeecc633c6834a46ccc76480be3cb5e0688", func := "usher/usherlaw5.PageEscapeOnly", spec := "pageEscapeOnly", inPlace := ["internal/abi.NoEscape"], named := ["usher/page.escapes", "usher/api.ErrText", "usher/api.ErrArg", "usher/api.ErrMany", "usher/api.ErrTwice", "usher/api.ErrScheme", "usher/api.ErrShort", "usher/api.ErrDry", "usher/api.ErrTaken", "usher/api.ErrFull", "usher/api.ErrDead", "usher/api.ErrLog", "usher/api.ErrLost", "usher/api.ErrDenied"], apart := false, laid := [("usher/api.ErrArg", laid_usher_api_ErrArg), ("usher/api.ErrText", laid_usher_api_ErrText), ("usher/api.ErrMany", laid_usher_api_ErrMany), ("usher/api.ErrTwice", laid_usher_api_ErrTwice), ("usher/api.ErrScheme", laid_usher_api_ErrScheme), ("usher/api.ErrShort", laid_usher_api_ErrShort), ("usher/api.ErrDry", laid_usher_api_ErrDry), ("usher/api.ErrTaken", laid_usher_api_ErrTaken), ("usher/api.ErrFull", laid_usher_api_ErrFull), ("usher/api.ErrDead", laid_usher_api_ErrDead), ("usher/api.ErrLog", laid_usher_api_ErrLog), ("usher/api.ErrLost", laid_usher_api_ErrLost), ("usher/api.ErrDenied", laid_usher_api_ErrDenied), ("usher/page.escapes", laid_usher_page_escapes)], narrowed := true }
def PageEscapeOnlyUptoSaid : Prop := pageEscapeOnlyUptoRow.holds Tryd.pinned (OpenSpec.upto pageEscapeOnlySpec)

/-- 'usherlaw5.PageWriteExact', WHERE WHAT IT READS IS OF BULK AT MOST 1048576: true; the input reads as it did. -/
def pageWriteExactUptoRow : OpenClaim := { program := "ytmaedmmcjhmheaadoor", sum := "fe67e5b3c04dfa271fada49cac87dbeecc633c6834a46ccc76480be3cb5e0688", func := "usher/usherlaw5.PageWriteExact", spec := "pageWriteExact", inPlace := ["internal/abi.NoEscape"], unfollowed := true, recurses := true, named := ["usher/api.ErrArg", "usher/page.escapes", "usher/api.ErrText", "usher/api.ErrMany", "usher/api.ErrTwice", "usher/api.ErrScheme", "usher/api.ErrShort", "usher/api.ErrDry", "usher/api.ErrTaken", "usher/api.ErrFull", "usher/api.ErrDead", "usher/api.ErrLog", "usher/api.ErrLost", "usher/api.ErrDenied"], apart := false, laid := [("usher/api.ErrArg", laid_usher_api_ErrArg), ("usher/api.ErrText", laid_usher_api_ErrText), ("usher/api.ErrMany", laid_usher_api_ErrMany), ("usher/api.ErrTwice", laid_usher_api_ErrTwice), ("usher/api.ErrScheme", laid_usher_api_ErrScheme), ("usher/api.ErrShort", laid_usher_api_ErrShort), ("usher/api.ErrDry", laid_usher_api_ErrDry), ("usher/api.ErrTaken", laid_usher_api_ErrTaken), ("usher/api.ErrFull", laid_usher_api_ErrFull), ("usher/api.ErrDead", laid_usher_api_ErrDead), ("usher/api.ErrLog", laid_usher_api_ErrLog), ("usher/api.ErrLost", laid_usher_api_ErrLost), ("usher/api.ErrDenied", laid_usher_api_ErrDenied), ("usher/page.escapes", laid_usher_page_escapes)], narrowed := true }
def PageWriteExactUptoSaid : Prop := pageWriteExactUptoRow.holds Tryd.pinned (OpenSpec.upto pageWriteExactSpec)

/-- 'usherlaw5.PageTags', WHERE WHAT IT READS IS OF BULK AT MOST 1048576: true; the input reads as it did. -/
def pageTagsUptoRow : OpenClaim := { program := "ytmaedmmcjhmheaadoor", sum := "fe67e5b3c04dfa271fada49cac87dbeecc633c6834a46ccc76480be3cb5e0688", func := "usher/usherlaw5.PageTags", spec := "pageTags", inPlace := ["internal/abi.NoEscape"], unfollowed := true, recurses := true, named := ["usher/api.ErrArg", "usher/page.escapes"], apart := false, laid := [("usher/api.ErrArg", laid_usher_api_ErrArg), ("usher/page.escapes", laid_usher_page_escapes)], narrowed := true }
def PageTagsUptoSaid : Prop := pageTagsUptoRow.holds Tryd.pinned (OpenSpec.upto pageTagsSpec)

/-- 'usherlaw5.PageReadExact', WHERE WHAT IT READS IS OF BULK AT MOST 1048576: true; the input reads as it did. -/
def pageReadExactUptoRow : OpenClaim := { program := "ytmaedmmcjhmheaadoor", sum := "fe67e5b3c04dfa271fada49cac87dbeecc633c6834a46ccc76480be3cb5e0688", func := "usher/usherlaw5.PageReadExact", spec := "pageReadExact", inPlace := ["internal/bytealg.IndexByteString", "internal/abi.NoEscape"], unfollowed := true, recurses := true, named := ["usher/api.ErrText", "usher/page.escapes", "usher/api.ErrArg", "usher/api.ErrMany", "usher/api.ErrTwice", "usher/api.ErrScheme", "usher/api.ErrShort", "usher/api.ErrDry", "usher/api.ErrTaken", "usher/api.ErrFull", "usher/api.ErrDead", "usher/api.ErrLog", "usher/api.ErrLost", "usher/api.ErrDenied"], apart := false, laid := [("usher/api.ErrArg", laid_usher_api_ErrArg), ("usher/api.ErrText", laid_usher_api_ErrText), ("usher/api.ErrMany", laid_usher_api_ErrMany), ("usher/api.ErrTwice", laid_usher_api_ErrTwice), ("usher/api.ErrScheme", laid_usher_api_ErrScheme), ("usher/api.ErrShort", laid_usher_api_ErrShort), ("usher/api.ErrDry", laid_usher_api_ErrDry), ("usher/api.ErrTaken", laid_usher_api_ErrTaken), ("usher/api.ErrFull", laid_usher_api_ErrFull), ("usher/api.ErrDead", laid_usher_api_ErrDead), ("usher/api.ErrLog", laid_usher_api_ErrLog), ("usher/api.ErrLost", laid_usher_api_ErrLost), ("usher/api.ErrDenied", laid_usher_api_ErrDenied), ("usher/page.escapes", laid_usher_page_escapes)], narrowed := true }
def PageReadExactUptoSaid : Prop := pageReadExactUptoRow.holds Tryd.pinned (OpenSpec.upto pageReadExactSpec)

/-- 'usherlaw5.PageBack', WHERE WHAT IT READS IS OF BULK AT MOST 1048576: true; the input reads as it did. -/
def pageBackUptoRow : OpenClaim := { program := "ytmaedmmcjhmheaadoor", sum := "fe67e5b3c04dfa271fada49cac87dbeecc633c6834a46ccc76480be3cb5e0688", func := "usher/usherlaw5.PageBack", spec := "pageBack", inPlace := ["internal/abi.NoEscape", "internal/bytealg.IndexByteString"], unfollowed := true, recurses := true, named := ["usher/api.ErrArg", "usher/page.escapes", "usher/api.ErrText", "usher/api.ErrMany", "usher/api.ErrTwice", "usher/api.ErrScheme", "usher/api.ErrShort", "usher/api.ErrDry", "usher/api.ErrTaken", "usher/api.ErrFull", "usher/api.ErrDead", "usher/api.ErrLog", "usher/api.ErrLost", "usher/api.ErrDenied"], apart := false, laid := [("usher/api.ErrArg", laid_usher_api_ErrArg), ("usher/api.ErrText", laid_usher_api_ErrText), ("usher/api.ErrMany", laid_usher_api_ErrMany), ("usher/api.ErrTwice", laid_usher_api_ErrTwice), ("usher/api.ErrScheme", laid_usher_api_ErrScheme), ("usher/api.ErrShort", laid_usher_api_ErrShort), ("usher/api.ErrDry", laid_usher_api_ErrDry), ("usher/api.ErrTaken", laid_usher_api_ErrTaken), ("usher/api.ErrFull", laid_usher_api_ErrFull), ("usher/api.ErrDead", laid_usher_api_ErrDead), ("usher/api.ErrLog", laid_usher_api_ErrLog), ("usher/api.ErrLost", laid_usher_api_ErrLost), ("usher/api.ErrDenied", laid_usher_api_ErrDenied), ("usher/page.escapes", laid_usher_page_escapes)], narrowed := true }
def PageBackUptoSaid : Prop := pageBackUptoRow.holds Tryd.pinned (OpenSpec.upto pageBackSpec)

/-- 'usherlaw5.PageOnly', WHERE WHAT IT READS IS OF BULK AT MOST 1048576: true; the input reads as it did. -/
def pageOnlyUptoRow : OpenClaim := { program := "ytmaedmmcjhmheaadoor", sum := "fe67e5b3c04dfa271fada49cac87dbeecc633c6834a46ccc76480be3cb5e0688", func := "usher/usherlaw5.PageOnly", spec := "pageOnly", inPlace := ["internal/abi.NoEscape", "internal/bytealg.IndexByteString"], unfollowed := true, recurses := true, named := ["usher/api.ErrArg", "usher/page.escapes", "usher/api.ErrText", "usher/api.ErrMany", "usher/api.ErrTwice", "usher/api.ErrScheme", "usher/api.ErrShort", "usher/api.ErrDry", "usher/api.ErrTaken", "usher/api.ErrFull", "usher/api.ErrDead", "usher/api.ErrLog", "usher/api.ErrLost", "usher/api.ErrDenied"], apart := false, laid := [("usher/api.ErrArg", laid_usher_api_ErrArg), ("usher/api.ErrText", laid_usher_api_ErrText), ("usher/api.ErrMany", laid_usher_api_ErrMany), ("usher/api.ErrTwice", laid_usher_api_ErrTwice), ("usher/api.ErrScheme", laid_usher_api_ErrScheme), ("usher/api.ErrShort", laid_usher_api_ErrShort), ("usher/api.ErrDry", laid_usher_api_ErrDry), ("usher/api.ErrTaken", laid_usher_api_ErrTaken), ("usher/api.ErrFull", laid_usher_api_ErrFull), ("usher/api.ErrDead", laid_usher_api_ErrDead), ("usher/api.ErrLog", laid_usher_api_ErrLog), ("usher/api.ErrLost", laid_usher_api_ErrLost), ("usher/api.ErrDenied", laid_usher_api_ErrDenied), ("usher/page.escapes", laid_usher_page_escapes)], narrowed := true }
def PageOnlyUptoSaid : Prop := pageOnlyUptoRow.holds Tryd.pinned (OpenSpec.upto pageOnlySpec)

/-- 'usherlaw5.PageReadMemory', WHERE WHAT IT READS IS OF BULK AT MOST 1048576: true; the input reads as it did. -/
def pageReadMemoryUptoRow : OpenClaim := { program := "ytmaedmmcjhmheaadoor", sum := "fe67e5b3c04dfa271fada49cac87dbeecc633c6834a46ccc76480be3cb5e0688", func := "usher/usherlaw5.PageReadMemory", spec := "pageReadMemory", inPlace := ["internal/abi.NoEscape", "internal/bytealg.IndexByteString"], unfollowed := true, recurses := true, named := ["usher/api.ErrArg", "usher/page.escapes", "usher/api.ErrText"], apart := false, laid := [("usher/api.ErrArg", laid_usher_api_ErrArg), ("usher/api.ErrText", laid_usher_api_ErrText), ("usher/page.escapes", laid_usher_page_escapes)], narrowed := true }
def PageReadMemoryUptoSaid : Prop := pageReadMemoryUptoRow.holds Tryd.pinned (OpenSpec.upto pageReadMemorySpec)

/-- 'usherlaw5.PageBrowser', WHERE WHAT IT READS IS OF BULK AT MOST 1048576: true; the input reads as it did. -/
def pageBrowserUptoRow : OpenClaim := { program := "ytmaedmmcjhmheaadoor", sum := "fe67e5b3c04dfa271fada49cac87dbeecc633c6834a46ccc76480be3cb5e0688", func := "usher/usherlaw5.PageBrowser", spec := "pageBrowser", inPlace := ["internal/abi.NoEscape", "internal/bytealg.IndexByteString", "internal/bytealg.CountString", "internal/bytealg.IndexString"], unfollowed := true, recurses := true, named := ["usher/api.ErrArg", "usher/page.escapes", "usher/api.ErrText", "usher/pct.unreserved", "usher/api.ErrMany", "unicode/utf8.first", "unicode/utf8.acceptRanges", "internal/bytealg.MaxLen"], apart := false, laid := [("unicode/utf8.acceptRanges", laid_unicode_utf8_acceptRanges), ("usher/api.ErrArg", laid_usher_api_ErrArg), ("usher/api.ErrText", laid_usher_api_ErrText), ("usher/api.ErrMany", laid_usher_api_ErrMany), ("usher/page.escapes", laid_usher_page_escapes), ("usher/pct.unreserved", laid_usher_pct_unreserved), ("unicode/utf8.first", laid_unicode_utf8_first)], narrowed := true }
def PageBrowserUptoSaid : Prop := pageBrowserUptoRow.holds Tryd.pinned (OpenSpec.upto pageBrowserSpec)

end Rows
end Go.Proofs.YtmaedmmcjhmheaaDoor
