/-
  DERIVED. GIVEN WITH THE SEED: THE CARDS: each row of YtmaedmmcjhmheaaDoorRows.lean that lists a variable, with what it lists TIED to the program's text (the seventh form; the later family's looks); each row that meets fmt, with fmt's text TOLD by the authors' own Lean function (tested against real Go, not proved from fmt's source: count such statements apart). THE CARD IS WHAT COUNTS. Prove the row's statement (the work); the ties are given (YtmaedmmcjhmheaaDoorTie.lean); close each card by the builder's one call (the guide's Derived/Test/ToyasCard.lean, 'card_holds'). Laid BY PROGRAM, IN A SANDBOX (cutbox-door.mjs). By AI agents, Wed Nov 11 2026. No macro, syntax, notation, axiom, sorry.
-/
import Derived.Test.YtmaedmmcjhmheaaDoorRows
import GoSem.ClaimSeven
namespace Go.Proofs.YtmaedmmcjhmheaaDoor
namespace Rows

/-- THE TIED CARD OF 'usherlaw5.PageEscapeExact'. -/
def pageEscapeExactCard : Claim7 := { stood := { row := pageEscapeExactRow, standIns := [], harness := (true, "615a1d6a1b1523101ac811d2003c8f790cdbc793416dfbe5e10dc72123227128"), looks := true }, kinds := [], alts := [], laidByText := true, laidKinds := [.data], laidTests := true, laidLooks := .later }
def PageEscapeExactCardSaid : Prop := Claim7.holds Tryd.pinned (.plain (OpenSpec.ofChange pageEscapeExactSpec)) pageEscapeExactCard

/-- THE TIED CARD OF 'usherlaw5.PageUnescapeExact'. -/
def pageUnescapeExactCard : Claim7 := { stood := { row := pageUnescapeExactRow, standIns := [], harness := (true, "615a1d6a1b1523101ac811d2003c8f790cdbc793416dfbe5e10dc72123227128"), looks := true }, kinds := [], alts := [], laidByText := true, laidKinds := [.sentinel, .sentinel, .sentinel, .sentinel, .sentinel, .sentinel, .sentinel, .sentinel, .sentinel, .sentinel, .sentinel, .sentinel, .sentinel, .data], laidTests := true, laidLooks := .later }
def PageUnescapeExactCardSaid : Prop := Claim7.holds Tryd.pinned (.plain (OpenSpec.ofChange pageUnescapeExactSpec)) pageUnescapeExactCard

/-- THE TIED CARD OF 'usherlaw5.PageEscapeBack'. -/
def pageEscapeBackCard : Claim7 := { stood := { row := pageEscapeBackRow, standIns := [], harness := (true, "615a1d6a1b1523101ac811d2003c8f790cdbc793416dfbe5e10dc72123227128"), looks := true }, kinds := [], alts := [], laidByText := true, laidKinds := [.sentinel, .data], laidTests := true, laidLooks := .later }
def PageEscapeBackCardSaid : Prop := Claim7.holds Tryd.pinned (.plain (OpenSpec.ofChange pageEscapeBackSpec)) pageEscapeBackCard

/-- THE TIED CARD OF 'usherlaw5.PageEscapeOnly'. -/
def pageEscapeOnlyCard : Claim7 := { stood := { row := pageEscapeOnlyRow, standIns := [], harness := (true, "615a1d6a1b1523101ac811d2003c8f790cdbc793416dfbe5e10dc72123227128"), looks := true }, kinds := [], alts := [], laidByText := true, laidKinds := [.sentinel, .sentinel, .sentinel, .sentinel, .sentinel, .sentinel, .sentinel, .sentinel, .sentinel, .sentinel, .sentinel, .sentinel, .sentinel, .data], laidTests := true, laidLooks := .later }
def PageEscapeOnlyCardSaid : Prop := Claim7.holds Tryd.pinned (.plain (OpenSpec.ofChange pageEscapeOnlySpec)) pageEscapeOnlyCard

/-- THE TIED CARD OF 'usherlaw5.PageWriteExact'. -/
def pageWriteExactCard : Claim7 := { stood := { row := pageWriteExactRow, standIns := [], harness := (true, "615a1d6a1b1523101ac811d2003c8f790cdbc793416dfbe5e10dc72123227128"), looks := true }, kinds := [], alts := [], laidByText := true, laidKinds := [.sentinel, .sentinel, .sentinel, .sentinel, .sentinel, .sentinel, .sentinel, .sentinel, .sentinel, .sentinel, .sentinel, .sentinel, .sentinel, .data], laidTests := true, laidLooks := .later }
def PageWriteExactCardSaid : Prop := Claim7.holds Tryd.pinned (.plain (OpenSpec.ofChange pageWriteExactSpec)) pageWriteExactCard

/-- THE TIED CARD OF 'usherlaw5.PageTags'. -/
def pageTagsCard : Claim7 := { stood := { row := pageTagsRow, standIns := [], harness := (true, "615a1d6a1b1523101ac811d2003c8f790cdbc793416dfbe5e10dc72123227128"), looks := true }, kinds := [], alts := [], laidByText := true, laidKinds := [.sentinel, .data], laidTests := true, laidLooks := .later }
def PageTagsCardSaid : Prop := Claim7.holds Tryd.pinned (.plain (OpenSpec.ofChange pageTagsSpec)) pageTagsCard

/-- THE TIED CARD OF 'usherlaw5.PageReadExact'. -/
def pageReadExactCard : Claim7 := { stood := { row := pageReadExactRow, standIns := [], harness := (true, "615a1d6a1b1523101ac811d2003c8f790cdbc793416dfbe5e10dc72123227128"), looks := true }, kinds := [], alts := [], laidByText := true, laidKinds := [.sentinel, .sentinel, .sentinel, .sentinel, .sentinel, .sentinel, .sentinel, .sentinel, .sentinel, .sentinel, .sentinel, .sentinel, .sentinel, .data], laidTests := true, laidLooks := .later }
def PageReadExactCardSaid : Prop := Claim7.holds Tryd.pinned (.plain (OpenSpec.ofChange pageReadExactSpec)) pageReadExactCard

/-- THE TIED CARD OF 'usherlaw5.PageBack'. -/
def pageBackCard : Claim7 := { stood := { row := pageBackRow, standIns := [], harness := (true, "615a1d6a1b1523101ac811d2003c8f790cdbc793416dfbe5e10dc72123227128"), looks := true }, kinds := [], alts := [], laidByText := true, laidKinds := [.sentinel, .sentinel, .sentinel, .sentinel, .sentinel, .sentinel, .sentinel, .sentinel, .sentinel, .sentinel, .sentinel, .sentinel, .sentinel, .data], laidTests := true, laidLooks := .later }
def PageBackCardSaid : Prop := Claim7.holds Tryd.pinned (.plain (OpenSpec.ofChange pageBackSpec)) pageBackCard

/-- THE TIED CARD OF 'usherlaw5.PageOnly'. -/
def pageOnlyCard : Claim7 := { stood := { row := pageOnlyRow, standIns := [], harness := (true, "615a1d6a1b1523101ac811d2003c8f790cdbc793416dfbe5e10dc72123227128"), looks := true }, kinds := [], alts := [], laidByText := true, laidKinds := [.sentinel, .sentinel, .sentinel, .sentinel, .sentinel, .sentinel, .sentinel, .sentinel, .sentinel, .sentinel, .sentinel, .sentinel, .sentinel, .data], laidTests := true, laidLooks := .later }
def PageOnlyCardSaid : Prop := Claim7.holds Tryd.pinned (.plain (OpenSpec.ofChange pageOnlySpec)) pageOnlyCard

/-- THE TIED CARD OF 'usherlaw5.PageReadMemory'. -/
def pageReadMemoryCard : Claim7 := { stood := { row := pageReadMemoryRow, standIns := [], harness := (true, "615a1d6a1b1523101ac811d2003c8f790cdbc793416dfbe5e10dc72123227128"), looks := true }, kinds := [], alts := [], laidByText := true, laidKinds := [.sentinel, .sentinel, .data], laidTests := true, laidLooks := .later }
def PageReadMemoryCardSaid : Prop := Claim7.holds Tryd.pinned (.plain (OpenSpec.ofChange pageReadMemorySpec)) pageReadMemoryCard

/-- THE TIED CARD OF 'usherlaw5.PageBrowser'. -/
def pageBrowserCard : Claim7 := { stood := { row := pageBrowserRow, standIns := [], harness := (true, "615a1d6a1b1523101ac811d2003c8f790cdbc793416dfbe5e10dc72123227128"), looks := true }, kinds := [], alts := [], laidByText := true, laidKinds := [.data, .sentinel, .sentinel, .sentinel, .data, .data, .pinned], laidTests := true, laidLooks := .later }
def PageBrowserCardSaid : Prop := Claim7.holds Tryd.pinned (.plain (OpenSpec.ofChange pageBrowserSpec)) pageBrowserCard

/-- THE SECOND FORM's CARD OF 'usherlaw5.PageEscapeExact'. -/
def pageEscapeExactUptoCard : Claim7 := { stood := { row := pageEscapeExactUptoRow, standIns := [], harness := (true, "615a1d6a1b1523101ac811d2003c8f790cdbc793416dfbe5e10dc72123227128"), looks := true }, kinds := [], alts := [], laidByText := true, laidKinds := [.data], laidTests := true, laidLooks := .later }
def PageEscapeExactUptoCardSaid : Prop := Claim7.holds Tryd.pinned (.plain (OpenSpec.upto pageEscapeExactSpec)) pageEscapeExactUptoCard

/-- THE SECOND FORM's CARD OF 'usherlaw5.PageUnescapeExact'. -/
def pageUnescapeExactUptoCard : Claim7 := { stood := { row := pageUnescapeExactUptoRow, standIns := [], harness := (true, "615a1d6a1b1523101ac811d2003c8f790cdbc793416dfbe5e10dc72123227128"), looks := true }, kinds := [], alts := [], laidByText := true, laidKinds := [.sentinel, .sentinel, .sentinel, .sentinel, .sentinel, .sentinel, .sentinel, .sentinel, .sentinel, .sentinel, .sentinel, .sentinel, .sentinel, .data], laidTests := true, laidLooks := .later }
def PageUnescapeExactUptoCardSaid : Prop := Claim7.holds Tryd.pinned (.plain (OpenSpec.upto pageUnescapeExactSpec)) pageUnescapeExactUptoCard

/-- THE SECOND FORM's CARD OF 'usherlaw5.PageEscapeBack'. -/
def pageEscapeBackUptoCard : Claim7 := { stood := { row := pageEscapeBackUptoRow, standIns := [], harness := (true, "615a1d6a1b1523101ac811d2003c8f790cdbc793416dfbe5e10dc72123227128"), looks := true }, kinds := [], alts := [], laidByText := true, laidKinds := [.sentinel, .data], laidTests := true, laidLooks := .later }
def PageEscapeBackUptoCardSaid : Prop := Claim7.holds Tryd.pinned (.plain (OpenSpec.upto pageEscapeBackSpec)) pageEscapeBackUptoCard

/-- THE SECOND FORM's CARD OF 'usherlaw5.PageEscapeOnly'. -/
def pageEscapeOnlyUptoCard : Claim7 := { stood := { row := pageEscapeOnlyUptoRow, standIns := [], harness := (true, "615a1d6a1b1523101ac811d2003c8f790cdbc793416dfbe5e10dc72123227128"), looks := true }, kinds := [], alts := [], laidByText := true, laidKinds := [.sentinel, .sentinel, .sentinel, .sentinel, .sentinel, .sentinel, .sentinel, .sentinel, .sentinel, .sentinel, .sentinel, .sentinel, .sentinel, .data], laidTests := true, laidLooks := .later }
def PageEscapeOnlyUptoCardSaid : Prop := Claim7.holds Tryd.pinned (.plain (OpenSpec.upto pageEscapeOnlySpec)) pageEscapeOnlyUptoCard

/-- THE SECOND FORM's CARD OF 'usherlaw5.PageWriteExact'. -/
def pageWriteExactUptoCard : Claim7 := { stood := { row := pageWriteExactUptoRow, standIns := [], harness := (true, "615a1d6a1b1523101ac811d2003c8f790cdbc793416dfbe5e10dc72123227128"), looks := true }, kinds := [], alts := [], laidByText := true, laidKinds := [.sentinel, .sentinel, .sentinel, .sentinel, .sentinel, .sentinel, .sentinel, .sentinel, .sentinel, .sentinel, .sentinel, .sentinel, .sentinel, .data], laidTests := true, laidLooks := .later }
def PageWriteExactUptoCardSaid : Prop := Claim7.holds Tryd.pinned (.plain (OpenSpec.upto pageWriteExactSpec)) pageWriteExactUptoCard

/-- THE SECOND FORM's CARD OF 'usherlaw5.PageTags'. -/
def pageTagsUptoCard : Claim7 := { stood := { row := pageTagsUptoRow, standIns := [], harness := (true, "615a1d6a1b1523101ac811d2003c8f790cdbc793416dfbe5e10dc72123227128"), looks := true }, kinds := [], alts := [], laidByText := true, laidKinds := [.sentinel, .data], laidTests := true, laidLooks := .later }
def PageTagsUptoCardSaid : Prop := Claim7.holds Tryd.pinned (.plain (OpenSpec.upto pageTagsSpec)) pageTagsUptoCard

/-- THE SECOND FORM's CARD OF 'usherlaw5.PageReadExact'. -/
def pageReadExactUptoCard : Claim7 := { stood := { row := pageReadExactUptoRow, standIns := [], harness := (true, "615a1d6a1b1523101ac811d2003c8f790cdbc793416dfbe5e10dc72123227128"), looks := true }, kinds := [], alts := [], laidByText := true, laidKinds := [.sentinel, .sentinel, .sentinel, .sentinel, .sentinel, .sentinel, .sentinel, .sentinel, .sentinel, .sentinel, .sentinel, .sentinel, .sentinel, .data], laidTests := true, laidLooks := .later }
def PageReadExactUptoCardSaid : Prop := Claim7.holds Tryd.pinned (.plain (OpenSpec.upto pageReadExactSpec)) pageReadExactUptoCard

/-- THE SECOND FORM's CARD OF 'usherlaw5.PageBack'. -/
def pageBackUptoCard : Claim7 := { stood := { row := pageBackUptoRow, standIns := [], harness := (true, "615a1d6a1b1523101ac811d2003c8f790cdbc793416dfbe5e10dc72123227128"), looks := true }, kinds := [], alts := [], laidByText := true, laidKinds := [.sentinel, .sentinel, .sentinel, .sentinel, .sentinel, .sentinel, .sentinel, .sentinel, .sentinel, .sentinel, .sentinel, .sentinel, .sentinel, .data], laidTests := true, laidLooks := .later }
def PageBackUptoCardSaid : Prop := Claim7.holds Tryd.pinned (.plain (OpenSpec.upto pageBackSpec)) pageBackUptoCard

/-- THE SECOND FORM's CARD OF 'usherlaw5.PageOnly'. -/
def pageOnlyUptoCard : Claim7 := { stood := { row := pageOnlyUptoRow, standIns := [], harness := (true, "615a1d6a1b1523101ac811d2003c8f790cdbc793416dfbe5e10dc72123227128"), looks := true }, kinds := [], alts := [], laidByText := true, laidKinds := [.sentinel, .sentinel, .sentinel, .sentinel, .sentinel, .sentinel, .sentinel, .sentinel, .sentinel, .sentinel, .sentinel, .sentinel, .sentinel, .data], laidTests := true, laidLooks := .later }
def PageOnlyUptoCardSaid : Prop := Claim7.holds Tryd.pinned (.plain (OpenSpec.upto pageOnlySpec)) pageOnlyUptoCard

/-- THE SECOND FORM's CARD OF 'usherlaw5.PageReadMemory'. -/
def pageReadMemoryUptoCard : Claim7 := { stood := { row := pageReadMemoryUptoRow, standIns := [], harness := (true, "615a1d6a1b1523101ac811d2003c8f790cdbc793416dfbe5e10dc72123227128"), looks := true }, kinds := [], alts := [], laidByText := true, laidKinds := [.sentinel, .sentinel, .data], laidTests := true, laidLooks := .later }
def PageReadMemoryUptoCardSaid : Prop := Claim7.holds Tryd.pinned (.plain (OpenSpec.upto pageReadMemorySpec)) pageReadMemoryUptoCard

/-- THE SECOND FORM's CARD OF 'usherlaw5.PageBrowser'. -/
def pageBrowserUptoCard : Claim7 := { stood := { row := pageBrowserUptoRow, standIns := [], harness := (true, "615a1d6a1b1523101ac811d2003c8f790cdbc793416dfbe5e10dc72123227128"), looks := true }, kinds := [], alts := [], laidByText := true, laidKinds := [.data, .sentinel, .sentinel, .sentinel, .data, .data, .pinned], laidTests := true, laidLooks := .later }
def PageBrowserUptoCardSaid : Prop := Claim7.holds Tryd.pinned (.plain (OpenSpec.upto pageBrowserSpec)) pageBrowserUptoCard
end Rows
end Go.Proofs.YtmaedmmcjhmheaaDoor
