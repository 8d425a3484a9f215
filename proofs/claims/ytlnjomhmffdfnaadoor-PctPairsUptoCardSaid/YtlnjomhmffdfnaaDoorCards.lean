/-
  DERIVED. GIVEN WITH THE SEED: THE CARDS: each row of YtlnjomhmffdfnaaDoorRows.lean that lists a variable, with what it lists TIED to the program's text (the seventh form; the later family's looks); each row that meets fmt, with fmt's text TOLD by the authors' own Lean function (tested against real Go, not proved from fmt's source: count such statements apart). THE CARD IS WHAT COUNTS. Prove the row's statement (the work); the ties are given (YtlnjomhmffdfnaaDoorTie.lean); close each card by the builder's one call (the guide's Derived/Test/ToyasCard.lean, 'card_holds'). Laid BY PROGRAM, IN A SANDBOX (cutbox-door.mjs). By AI agents, Wed Nov 11 2026. No macro, syntax, notation, axiom, sorry.
-/
import Derived.Test.YtlnjomhmffdfnaaDoorRows
import GoSem.ClaimSeven
namespace Go.Proofs.YtlnjomhmffdfnaaDoor
namespace Rows

/-- THE TIED CARD OF 'usherlaw3.PctEscapes'. -/
def pctEscapesCard : Claim7 := { stood := { row := pctEscapesRow, standIns := [], harness := (true, "63a5ce06db05f0b4b8382e629ba2eb5fcead73068b76c481aa3d315d246a4d49"), looks := true }, kinds := [], alts := [], laidByText := true, laidKinds := [.data], laidTests := true, laidLooks := .later }
def PctEscapesCardSaid : Prop := Claim7.holds Tryd.pinned (.plain (OpenSpec.ofChange pctEscapesSpec)) pctEscapesCard

/-- THE TIED CARD OF 'usherlaw3.PctUnescapes'. -/
def pctUnescapesCard : Claim7 := { stood := { row := pctUnescapesRow, standIns := [], harness := (true, "63a5ce06db05f0b4b8382e629ba2eb5fcead73068b76c481aa3d315d246a4d49"), looks := true }, kinds := [], alts := [], laidByText := true, laidKinds := [.sentinel, .sentinel, .sentinel, .sentinel, .sentinel, .sentinel, .sentinel, .sentinel, .sentinel, .sentinel, .sentinel, .sentinel, .sentinel], laidTests := true, laidLooks := .later }
def PctUnescapesCardSaid : Prop := Claim7.holds Tryd.pinned (.plain (OpenSpec.ofChange pctUnescapesSpec)) pctUnescapesCard

/-- THE TIED CARD OF 'usherlaw3.PctShape'. -/
def pctShapeCard : Claim7 := { stood := { row := pctShapeRow, standIns := [], harness := (true, "63a5ce06db05f0b4b8382e629ba2eb5fcead73068b76c481aa3d315d246a4d49"), looks := true }, kinds := [], alts := [], laidByText := true, laidKinds := [.data], laidTests := true, laidLooks := .later }
def PctShapeCardSaid : Prop := Claim7.holds Tryd.pinned (.plain (OpenSpec.ofChange pctShapeSpec)) pctShapeCard

/-- THE TIED CARD OF 'usherlaw3.PctRefuses'. -/
def pctRefusesCard : Claim7 := { stood := { row := pctRefusesRow, standIns := [], harness := (true, "63a5ce06db05f0b4b8382e629ba2eb5fcead73068b76c481aa3d315d246a4d49"), looks := true }, kinds := [], alts := [], laidByText := true, laidKinds := [.sentinel], laidTests := true, laidLooks := .later }
def PctRefusesCardSaid : Prop := Claim7.holds Tryd.pinned (.plain (OpenSpec.ofChange pctRefusesSpec)) pctRefusesCard

/-- THE TIED CARD OF 'usherlaw3.PctCase'. -/
def pctCaseCard : Claim7 := { stood := { row := pctCaseRow, standIns := [], harness := (true, "63a5ce06db05f0b4b8382e629ba2eb5fcead73068b76c481aa3d315d246a4d49"), looks := true }, kinds := [], alts := [], laidByText := true, laidKinds := [.sentinel, .sentinel, .sentinel, .sentinel, .sentinel, .sentinel, .sentinel, .sentinel, .sentinel, .sentinel, .sentinel, .sentinel, .sentinel], laidTests := true, laidLooks := .later }
def PctCaseCardSaid : Prop := Claim7.holds Tryd.pinned (.plain (OpenSpec.ofChange pctCaseSpec)) pctCaseCard

/-- THE TIED CARD OF 'usherlaw3.PctForms'. -/
def pctFormsCard : Claim7 := { stood := { row := pctFormsRow, standIns := [], harness := (true, "63a5ce06db05f0b4b8382e629ba2eb5fcead73068b76c481aa3d315d246a4d49"), looks := true }, kinds := [], alts := [], laidByText := true, laidKinds := [.data], laidTests := true, laidLooks := .later }
def PctFormsCardSaid : Prop := Claim7.holds Tryd.pinned (.plain (OpenSpec.ofChange pctFormsSpec)) pctFormsCard

/-- THE TIED CARD OF 'usherlaw3.PctBack'. -/
def pctBackCard : Claim7 := { stood := { row := pctBackRow, standIns := [], harness := (true, "63a5ce06db05f0b4b8382e629ba2eb5fcead73068b76c481aa3d315d246a4d49"), looks := true }, kinds := [], alts := [], laidByText := true, laidKinds := [.sentinel, .data], laidTests := true, laidLooks := .later }
def PctBackCardSaid : Prop := Claim7.holds Tryd.pinned (.plain (OpenSpec.ofChange pctBackSpec)) pctBackCard

/-- THE TIED CARD OF 'usherlaw3.PctPairs'. -/
def pctPairsCard : Claim7 := { stood := { row := pctPairsRow, standIns := [], harness := (true, "63a5ce06db05f0b4b8382e629ba2eb5fcead73068b76c481aa3d315d246a4d49"), looks := true }, kinds := [], alts := [], laidByText := true, laidKinds := [.data, .sentinel, .sentinel, .sentinel, .sentinel, .sentinel, .sentinel, .sentinel, .sentinel, .sentinel, .sentinel, .sentinel, .sentinel, .sentinel, .pinned], laidTests := true, laidLooks := .later }
def PctPairsCardSaid : Prop := Claim7.holds Tryd.pinned (.plain (OpenSpec.ofChange pctPairsSpec)) pctPairsCard

/-- THE TIED CARD OF 'usherlaw3.PctJoin'. -/
def pctJoinCard : Claim7 := { stood := { row := pctJoinRow, standIns := [], harness := (true, "63a5ce06db05f0b4b8382e629ba2eb5fcead73068b76c481aa3d315d246a4d49"), looks := true }, kinds := [], alts := [], laidByText := true, laidKinds := [.data, .sentinel, .sentinel, .pinned], laidTests := true, laidLooks := .later }
def PctJoinCardSaid : Prop := Claim7.holds Tryd.pinned (.plain (OpenSpec.ofChange pctJoinSpec)) pctJoinCard

/-- THE TIED CARD OF 'usherlaw3.PctFormBack'. -/
def pctFormBackCard : Claim7 := { stood := { row := pctFormBackRow, standIns := [], harness := (true, "63a5ce06db05f0b4b8382e629ba2eb5fcead73068b76c481aa3d315d246a4d49"), looks := true }, kinds := [], alts := [], laidByText := true, laidKinds := [.data, .sentinel, .sentinel, .data, .pinned], laidTests := true, laidLooks := .later }
def PctFormBackCardSaid : Prop := Claim7.holds Tryd.pinned (.plain (OpenSpec.ofChange pctFormBackSpec)) pctFormBackCard

/-- THE TIED CARD OF 'usherlaw3.PctOnce'. -/
def pctOnceCard : Claim7 := { stood := { row := pctOnceRow, standIns := [], harness := (true, "63a5ce06db05f0b4b8382e629ba2eb5fcead73068b76c481aa3d315d246a4d49"), looks := true }, kinds := [], alts := [], laidByText := true, laidKinds := [.data, .sentinel, .sentinel, .data, .pinned], laidTests := true, laidLooks := .later }
def PctOnceCardSaid : Prop := Claim7.holds Tryd.pinned (.plain (OpenSpec.ofChange pctOnceSpec)) pctOnceCard

/-- THE SECOND FORM's CARD OF 'usherlaw3.PctEscapes'. -/
def pctEscapesUptoCard : Claim7 := { stood := { row := pctEscapesUptoRow, standIns := [], harness := (true, "63a5ce06db05f0b4b8382e629ba2eb5fcead73068b76c481aa3d315d246a4d49"), looks := true }, kinds := [], alts := [], laidByText := true, laidKinds := [.data], laidTests := true, laidLooks := .later }
def PctEscapesUptoCardSaid : Prop := Claim7.holds Tryd.pinned (.plain (OpenSpec.upto pctEscapesSpec)) pctEscapesUptoCard

/-- THE SECOND FORM's CARD OF 'usherlaw3.PctUnescapes'. -/
def pctUnescapesUptoCard : Claim7 := { stood := { row := pctUnescapesUptoRow, standIns := [], harness := (true, "63a5ce06db05f0b4b8382e629ba2eb5fcead73068b76c481aa3d315d246a4d49"), looks := true }, kinds := [], alts := [], laidByText := true, laidKinds := [.sentinel, .sentinel, .sentinel, .sentinel, .sentinel, .sentinel, .sentinel, .sentinel, .sentinel, .sentinel, .sentinel, .sentinel, .sentinel], laidTests := true, laidLooks := .later }
def PctUnescapesUptoCardSaid : Prop := Claim7.holds Tryd.pinned (.plain (OpenSpec.upto pctUnescapesSpec)) pctUnescapesUptoCard

/-- THE SECOND FORM's CARD OF 'usherlaw3.PctShape'. -/
def pctShapeUptoCard : Claim7 := { stood := { row := pctShapeUptoRow, standIns := [], harness := (true, "63a5ce06db05f0b4b8382e629ba2eb5fcead73068b76c481aa3d315d246a4d49"), looks := true }, kinds := [], alts := [], laidByText := true, laidKinds := [.data], laidTests := true, laidLooks := .later }
def PctShapeUptoCardSaid : Prop := Claim7.holds Tryd.pinned (.plain (OpenSpec.upto pctShapeSpec)) pctShapeUptoCard

/-- THE SECOND FORM's CARD OF 'usherlaw3.PctRefuses'. -/
def pctRefusesUptoCard : Claim7 := { stood := { row := pctRefusesUptoRow, standIns := [], harness := (true, "63a5ce06db05f0b4b8382e629ba2eb5fcead73068b76c481aa3d315d246a4d49"), looks := true }, kinds := [], alts := [], laidByText := true, laidKinds := [.sentinel], laidTests := true, laidLooks := .later }
def PctRefusesUptoCardSaid : Prop := Claim7.holds Tryd.pinned (.plain (OpenSpec.upto pctRefusesSpec)) pctRefusesUptoCard

/-- THE SECOND FORM's CARD OF 'usherlaw3.PctCase'. -/
def pctCaseUptoCard : Claim7 := { stood := { row := pctCaseUptoRow, standIns := [], harness := (true, "63a5ce06db05f0b4b8382e629ba2eb5fcead73068b76c481aa3d315d246a4d49"), looks := true }, kinds := [], alts := [], laidByText := true, laidKinds := [.sentinel, .sentinel, .sentinel, .sentinel, .sentinel, .sentinel, .sentinel, .sentinel, .sentinel, .sentinel, .sentinel, .sentinel, .sentinel], laidTests := true, laidLooks := .later }
def PctCaseUptoCardSaid : Prop := Claim7.holds Tryd.pinned (.plain (OpenSpec.upto pctCaseSpec)) pctCaseUptoCard

/-- THE SECOND FORM's CARD OF 'usherlaw3.PctForms'. -/
def pctFormsUptoCard : Claim7 := { stood := { row := pctFormsUptoRow, standIns := [], harness := (true, "63a5ce06db05f0b4b8382e629ba2eb5fcead73068b76c481aa3d315d246a4d49"), looks := true }, kinds := [], alts := [], laidByText := true, laidKinds := [.data], laidTests := true, laidLooks := .later }
def PctFormsUptoCardSaid : Prop := Claim7.holds Tryd.pinned (.plain (OpenSpec.upto pctFormsSpec)) pctFormsUptoCard

/-- THE SECOND FORM's CARD OF 'usherlaw3.PctBack'. -/
def pctBackUptoCard : Claim7 := { stood := { row := pctBackUptoRow, standIns := [], harness := (true, "63a5ce06db05f0b4b8382e629ba2eb5fcead73068b76c481aa3d315d246a4d49"), looks := true }, kinds := [], alts := [], laidByText := true, laidKinds := [.sentinel, .data], laidTests := true, laidLooks := .later }
def PctBackUptoCardSaid : Prop := Claim7.holds Tryd.pinned (.plain (OpenSpec.upto pctBackSpec)) pctBackUptoCard

/-- THE SECOND FORM's CARD OF 'usherlaw3.PctPairs'. -/
def pctPairsUptoCard : Claim7 := { stood := { row := pctPairsUptoRow, standIns := [], harness := (true, "63a5ce06db05f0b4b8382e629ba2eb5fcead73068b76c481aa3d315d246a4d49"), looks := true }, kinds := [], alts := [], laidByText := true, laidKinds := [.data, .sentinel, .sentinel, .sentinel, .sentinel, .sentinel, .sentinel, .sentinel, .sentinel, .sentinel, .sentinel, .sentinel, .sentinel, .sentinel, .pinned], laidTests := true, laidLooks := .later }
def PctPairsUptoCardSaid : Prop := Claim7.holds Tryd.pinned (.plain (OpenSpec.upto pctPairsSpec)) pctPairsUptoCard

/-- THE SECOND FORM's CARD OF 'usherlaw3.PctJoin'. -/
def pctJoinUptoCard : Claim7 := { stood := { row := pctJoinUptoRow, standIns := [], harness := (true, "63a5ce06db05f0b4b8382e629ba2eb5fcead73068b76c481aa3d315d246a4d49"), looks := true }, kinds := [], alts := [], laidByText := true, laidKinds := [.data, .sentinel, .sentinel, .pinned], laidTests := true, laidLooks := .later }
def PctJoinUptoCardSaid : Prop := Claim7.holds Tryd.pinned (.plain (OpenSpec.upto pctJoinSpec)) pctJoinUptoCard

/-- THE SECOND FORM's CARD OF 'usherlaw3.PctFormBack'. -/
def pctFormBackUptoCard : Claim7 := { stood := { row := pctFormBackUptoRow, standIns := [], harness := (true, "63a5ce06db05f0b4b8382e629ba2eb5fcead73068b76c481aa3d315d246a4d49"), looks := true }, kinds := [], alts := [], laidByText := true, laidKinds := [.data, .sentinel, .sentinel, .data, .pinned], laidTests := true, laidLooks := .later }
def PctFormBackUptoCardSaid : Prop := Claim7.holds Tryd.pinned (.plain (OpenSpec.upto pctFormBackSpec)) pctFormBackUptoCard

/-- THE SECOND FORM's CARD OF 'usherlaw3.PctOnce'. -/
def pctOnceUptoCard : Claim7 := { stood := { row := pctOnceUptoRow, standIns := [], harness := (true, "63a5ce06db05f0b4b8382e629ba2eb5fcead73068b76c481aa3d315d246a4d49"), looks := true }, kinds := [], alts := [], laidByText := true, laidKinds := [.data, .sentinel, .sentinel, .data, .pinned], laidTests := true, laidLooks := .later }
def PctOnceUptoCardSaid : Prop := Claim7.holds Tryd.pinned (.plain (OpenSpec.upto pctOnceSpec)) pctOnceUptoCard
end Rows
end Go.Proofs.YtlnjomhmffdfnaaDoor
