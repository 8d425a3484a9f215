/-
  DERIVED. GIVEN WITH THE SEED: THE CARDS: each row of YtopfmcgmfnmikaaDoorRows.lean that lists a variable, with what it lists TIED to the program's text (the seventh form; the later family's looks); each row that meets fmt, with fmt's text TOLD by the authors' own Lean function (tested against real Go, not proved from fmt's source: count such statements apart). THE CARD IS WHAT COUNTS. Prove the row's statement (the work); the ties are given (YtopfmcgmfnmikaaDoorTie.lean); close each card by the builder's one call (the guide's Derived/Test/ToyasCard.lean, 'card_holds'). Laid BY PROGRAM, IN A SANDBOX (cutbox-door.mjs). By AI agents, Wed Nov 11 2026. No macro, syntax, notation, axiom, sorry.
-/
import Derived.Test.YtopfmcgmfnmikaaDoorRows
import GoSem.ClaimSeven
namespace Go.Proofs.YtopfmcgmfnmikaaDoor
namespace Rows

/-- THE TIED CARD OF 'usherlaw9.TermsRedirects'. -/
def termsRedirectsCard : Claim7 := { stood := { row := termsRedirectsRow, standIns := [], harness := (true, "87fb406bd4ac6597a3c09cddda48064593ed115bea818a24873d6f3e1b47f22e"), looks := true }, kinds := [], alts := [], laidByText := true, laidKinds := [.data, .data, .pinned], laidTests := true, laidLooks := .later }
def TermsRedirectsCardSaid : Prop := Claim7.holds Tryd.pinned (.plain (OpenSpec.ofChange termsRedirectsSpec)) termsRedirectsCard

/-- THE TIED CARD OF 'usherlaw9.TermsRedirectSafe'. -/
def termsRedirectSafeCard : Claim7 := { stood := { row := termsRedirectSafeRow, standIns := [], harness := (true, "87fb406bd4ac6597a3c09cddda48064593ed115bea818a24873d6f3e1b47f22e"), looks := true }, kinds := [], alts := [], laidByText := true, laidKinds := [.data, .data, .pinned], laidTests := true, laidLooks := .later }
def TermsRedirectSafeCardSaid : Prop := Claim7.holds Tryd.pinned (.plain (OpenSpec.ofChange termsRedirectSafeSpec)) termsRedirectSafeCard

/-- THE TIED CARD OF 'usherlaw9.TermsAnswers'. -/
def termsAnswersCard : Claim7 := { stood := { row := termsAnswersRow, standIns := [], harness := (true, "87fb406bd4ac6597a3c09cddda48064593ed115bea818a24873d6f3e1b47f22e"), looks := true }, kinds := [], alts := [], laidByText := true, laidKinds := [.data, .sentinel, .sentinel, .sentinel, .sentinel, .sentinel, .sentinel, .sentinel, .sentinel, .sentinel, .sentinel, .sentinel, .sentinel, .sentinel, .data, .data, .pinned], laidTests := true, laidLooks := .later }
def TermsAnswersCardSaid : Prop := Claim7.holds Tryd.pinned (.plain (OpenSpec.ofChange termsAnswersSpec)) termsAnswersCard

/-- THE TIED CARD OF 'usherlaw9.TermsAnswerIn'. -/
def termsAnswerInCard : Claim7 := { stood := { row := termsAnswerInRow, standIns := [], harness := (true, "87fb406bd4ac6597a3c09cddda48064593ed115bea818a24873d6f3e1b47f22e"), looks := true }, kinds := [], alts := [], laidByText := true, laidKinds := [.data, .sentinel, .sentinel, .data, .data, .pinned], laidTests := true, laidLooks := .later }
def TermsAnswerInCardSaid : Prop := Claim7.holds Tryd.pinned (.plain (OpenSpec.ofChange termsAnswerInSpec)) termsAnswerInCard

/-- THE TIED CARD OF 'usherlaw9.TermsAnswerBack'. -/
def termsAnswerBackCard : Claim7 := { stood := { row := termsAnswerBackRow, standIns := [], harness := (true, "87fb406bd4ac6597a3c09cddda48064593ed115bea818a24873d6f3e1b47f22e"), looks := true }, kinds := [], alts := [], laidByText := true, laidKinds := [.data, .sentinel, .sentinel, .data, .data, .pinned], laidTests := true, laidLooks := .later }
def TermsAnswerBackCardSaid : Prop := Claim7.holds Tryd.pinned (.plain (OpenSpec.ofChange termsAnswerBackSpec)) termsAnswerBackCard

/-- THE TIED CARD OF 'usherlaw9.TermsScopes'. -/
def termsScopesCard : Claim7 := { stood := { row := termsScopesRow, standIns := [], harness := (true, "87fb406bd4ac6597a3c09cddda48064593ed115bea818a24873d6f3e1b47f22e"), looks := true }, kinds := [], alts := [], laidByText := true, laidKinds := [.data, .sentinel, .sentinel, .sentinel, .sentinel, .sentinel, .sentinel, .sentinel, .sentinel, .sentinel, .sentinel, .sentinel, .sentinel, .sentinel, .pinned], laidTests := true, laidLooks := .later }
def TermsScopesCardSaid : Prop := Claim7.holds Tryd.pinned (.plain (OpenSpec.ofChange termsScopesSpec)) termsScopesCard

/-- THE TIED CARD OF 'usherlaw9.TermsScopeOrder'. -/
def termsScopeOrderCard : Claim7 := { stood := { row := termsScopeOrderRow, standIns := [], harness := (true, "87fb406bd4ac6597a3c09cddda48064593ed115bea818a24873d6f3e1b47f22e"), looks := true }, kinds := [], alts := [], laidByText := true, laidKinds := [.data, .sentinel, .sentinel, .sentinel, .sentinel, .sentinel, .sentinel, .sentinel, .sentinel, .sentinel, .sentinel, .sentinel, .sentinel, .sentinel, .pinned], laidTests := true, laidLooks := .later }
def TermsScopeOrderCardSaid : Prop := Claim7.holds Tryd.pinned (.plain (OpenSpec.ofChange termsScopeOrderSpec)) termsScopeOrderCard

/-- THE TIED CARD OF 'usherlaw9.TermsScopeBack'. -/
def termsScopeBackCard : Claim7 := { stood := { row := termsScopeBackRow, standIns := [], harness := (true, "87fb406bd4ac6597a3c09cddda48064593ed115bea818a24873d6f3e1b47f22e"), looks := true }, kinds := [], alts := [], laidByText := true, laidKinds := [.data, .sentinel, .sentinel, .pinned], laidTests := true, laidLooks := .later }
def TermsScopeBackCardSaid : Prop := Claim7.holds Tryd.pinned (.plain (OpenSpec.ofChange termsScopeBackSpec)) termsScopeBackCard

/-- THE SECOND FORM's CARD OF 'usherlaw9.TermsRedirects'. -/
def termsRedirectsUptoCard : Claim7 := { stood := { row := termsRedirectsUptoRow, standIns := [], harness := (true, "87fb406bd4ac6597a3c09cddda48064593ed115bea818a24873d6f3e1b47f22e"), looks := true }, kinds := [], alts := [], laidByText := true, laidKinds := [.data, .data, .pinned], laidTests := true, laidLooks := .later }
def TermsRedirectsUptoCardSaid : Prop := Claim7.holds Tryd.pinned (.plain (OpenSpec.upto termsRedirectsSpec)) termsRedirectsUptoCard

/-- THE SECOND FORM's CARD OF 'usherlaw9.TermsRedirectSafe'. -/
def termsRedirectSafeUptoCard : Claim7 := { stood := { row := termsRedirectSafeUptoRow, standIns := [], harness := (true, "87fb406bd4ac6597a3c09cddda48064593ed115bea818a24873d6f3e1b47f22e"), looks := true }, kinds := [], alts := [], laidByText := true, laidKinds := [.data, .data, .pinned], laidTests := true, laidLooks := .later }
def TermsRedirectSafeUptoCardSaid : Prop := Claim7.holds Tryd.pinned (.plain (OpenSpec.upto termsRedirectSafeSpec)) termsRedirectSafeUptoCard

/-- THE SECOND FORM's CARD OF 'usherlaw9.TermsAnswers'. -/
def termsAnswersUptoCard : Claim7 := { stood := { row := termsAnswersUptoRow, standIns := [], harness := (true, "87fb406bd4ac6597a3c09cddda48064593ed115bea818a24873d6f3e1b47f22e"), looks := true }, kinds := [], alts := [], laidByText := true, laidKinds := [.data, .sentinel, .sentinel, .sentinel, .sentinel, .sentinel, .sentinel, .sentinel, .sentinel, .sentinel, .sentinel, .sentinel, .sentinel, .sentinel, .data, .data, .pinned], laidTests := true, laidLooks := .later }
def TermsAnswersUptoCardSaid : Prop := Claim7.holds Tryd.pinned (.plain (OpenSpec.upto termsAnswersSpec)) termsAnswersUptoCard

/-- THE SECOND FORM's CARD OF 'usherlaw9.TermsAnswerIn'. -/
def termsAnswerInUptoCard : Claim7 := { stood := { row := termsAnswerInUptoRow, standIns := [], harness := (true, "87fb406bd4ac6597a3c09cddda48064593ed115bea818a24873d6f3e1b47f22e"), looks := true }, kinds := [], alts := [], laidByText := true, laidKinds := [.data, .sentinel, .sentinel, .data, .data, .pinned], laidTests := true, laidLooks := .later }
def TermsAnswerInUptoCardSaid : Prop := Claim7.holds Tryd.pinned (.plain (OpenSpec.upto termsAnswerInSpec)) termsAnswerInUptoCard

/-- THE SECOND FORM's CARD OF 'usherlaw9.TermsAnswerBack'. -/
def termsAnswerBackUptoCard : Claim7 := { stood := { row := termsAnswerBackUptoRow, standIns := [], harness := (true, "87fb406bd4ac6597a3c09cddda48064593ed115bea818a24873d6f3e1b47f22e"), looks := true }, kinds := [], alts := [], laidByText := true, laidKinds := [.data, .sentinel, .sentinel, .data, .data, .pinned], laidTests := true, laidLooks := .later }
def TermsAnswerBackUptoCardSaid : Prop := Claim7.holds Tryd.pinned (.plain (OpenSpec.upto termsAnswerBackSpec)) termsAnswerBackUptoCard

/-- THE SECOND FORM's CARD OF 'usherlaw9.TermsScopes'. -/
def termsScopesUptoCard : Claim7 := { stood := { row := termsScopesUptoRow, standIns := [], harness := (true, "87fb406bd4ac6597a3c09cddda48064593ed115bea818a24873d6f3e1b47f22e"), looks := true }, kinds := [], alts := [], laidByText := true, laidKinds := [.data, .sentinel, .sentinel, .sentinel, .sentinel, .sentinel, .sentinel, .sentinel, .sentinel, .sentinel, .sentinel, .sentinel, .sentinel, .sentinel, .pinned], laidTests := true, laidLooks := .later }
def TermsScopesUptoCardSaid : Prop := Claim7.holds Tryd.pinned (.plain (OpenSpec.upto termsScopesSpec)) termsScopesUptoCard

/-- THE SECOND FORM's CARD OF 'usherlaw9.TermsScopeOrder'. -/
def termsScopeOrderUptoCard : Claim7 := { stood := { row := termsScopeOrderUptoRow, standIns := [], harness := (true, "87fb406bd4ac6597a3c09cddda48064593ed115bea818a24873d6f3e1b47f22e"), looks := true }, kinds := [], alts := [], laidByText := true, laidKinds := [.data, .sentinel, .sentinel, .sentinel, .sentinel, .sentinel, .sentinel, .sentinel, .sentinel, .sentinel, .sentinel, .sentinel, .sentinel, .sentinel, .pinned], laidTests := true, laidLooks := .later }
def TermsScopeOrderUptoCardSaid : Prop := Claim7.holds Tryd.pinned (.plain (OpenSpec.upto termsScopeOrderSpec)) termsScopeOrderUptoCard

/-- THE SECOND FORM's CARD OF 'usherlaw9.TermsScopeBack'. -/
def termsScopeBackUptoCard : Claim7 := { stood := { row := termsScopeBackUptoRow, standIns := [], harness := (true, "87fb406bd4ac6597a3c09cddda48064593ed115bea818a24873d6f3e1b47f22e"), looks := true }, kinds := [], alts := [], laidByText := true, laidKinds := [.data, .sentinel, .sentinel, .pinned], laidTests := true, laidLooks := .later }
def TermsScopeBackUptoCardSaid : Prop := Claim7.holds Tryd.pinned (.plain (OpenSpec.upto termsScopeBackSpec)) termsScopeBackUptoCard
end Rows
end Go.Proofs.YtopfmcgmfnmikaaDoor
