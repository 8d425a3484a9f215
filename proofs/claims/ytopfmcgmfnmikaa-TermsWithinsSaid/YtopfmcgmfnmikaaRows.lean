/-
  No cell of these rows narrows 'for every input' (looked for: loops, veiled, ifaces, maps, wideKeys, modest, calm, conditions, laid).
  DERIVED. THE GIVEN ROWS OF THIS SEAT. 6 by the template 'for every input the law returns true; each argument reads behind the call as it read before'; 0 by the template 'total and deterministic' (their statements: YtopfmcgmfnmikaaTotals.lean).
  GIVEN WITH THE SEED: the statements are not yours to turn. If you find one false, say at which input.
  Laid BY PROGRAM, IN A SANDBOX (cutbox-rows.mjs): the forced cells as the released guide's own fill.sh prints them over the translation 6de65978eb392221… (all of the seat's roots in one cut). By AI agents, Wed Nov 11 2026. No macro, syntax, notation, axiom, sorry.
-/
import Derived.Test.YtopfmcgmfnmikaaChecked
import GoSem.Claim
import GoSem.ClaimJoined
import GoSem.ClaimMapViews
import Derived.JoinedTies
import Derived.KernelRfl
namespace Go.Proofs.Ytopfmcgmfnmikaa
/- THE CELL 'sum', in the pinned program and in every row, IS THE sha256 OF THE DUMP (.gsa) THAT YtopfmcgmfnmikaaProg.lean LOADS. Nothing in Lean hashes anything: it is a label: what it is worth is what the hold of that sum in a sandbox is worth. -/
noncomputable def Try.pinned : Pinned := { name := "ytopfmcgmfnmikaa", sum := "6de65978eb39222186edc03cc6929be62143b357d7a8718e600ac0bb0b8c500d", checked := Try.checked }
namespace Rows
def none {H : Type} : Left H := { results := [], args := [] }

/-- 'usherlaw9.TermsNames': WHATEVER THE INPUT: true; the input reads as it did. -/
def termsNamesSpec : ChangeSpec := { name := "termsNames", fn := fun _ => fun
  | [d] => { results := [.lit (.bool true)], args := [d] }
  | _ => none }
def termsNamesRow : OpenClaim := { program := "ytopfmcgmfnmikaa", sum := "6de65978eb39222186edc03cc6929be62143b357d7a8718e600ac0bb0b8c500d", func := "usher/usherlaw9.TermsNames", spec := "termsNames", apart := false }
def TermsNamesSaid : Prop := termsNamesRow.holds Try.pinned (OpenSpec.ofChange termsNamesSpec)

/-- ITS FALSE NEIGHBOUR: 'it returns false'. Refute it at one input. -/
def termsNamesWrong : ChangeSpec := { name := "termsNames", fn := fun _ => fun
  | [d] => { results := [.lit (.bool false)], args := [d] }
  | _ => none }
def TermsNamesWrongFalsely : Prop := termsNamesRow.holds Try.pinned (OpenSpec.ofChange termsNamesWrong)

/-- 'usherlaw9.TermsWithins': WHATEVER THE INPUT: true; the input reads as it did. -/
def termsWithinsSpec : ChangeSpec := { name := "termsWithins", fn := fun _ => fun
  | [d] => { results := [.lit (.bool true)], args := [d] }
  | _ => none }
def termsWithinsRow : OpenClaim := { program := "ytopfmcgmfnmikaa", sum := "6de65978eb39222186edc03cc6929be62143b357d7a8718e600ac0bb0b8c500d", func := "usher/usherlaw9.TermsWithins", spec := "termsWithins", apart := false }
def TermsWithinsSaid : Prop := termsWithinsRow.holds Try.pinned (OpenSpec.ofChange termsWithinsSpec)

/-- ITS FALSE NEIGHBOUR: 'it returns false'. Refute it at one input. -/
def termsWithinsWrong : ChangeSpec := { name := "termsWithins", fn := fun _ => fun
  | [d] => { results := [.lit (.bool false)], args := [d] }
  | _ => none }
def TermsWithinsWrongFalsely : Prop := termsWithinsRow.holds Try.pinned (OpenSpec.ofChange termsWithinsWrong)

/-- 'usherlaw9.TermsWithinOrder': WHATEVER THE INPUT: true; the input reads as it did. -/
def termsWithinOrderSpec : ChangeSpec := { name := "termsWithinOrder", fn := fun _ => fun
  | [d] => { results := [.lit (.bool true)], args := [d] }
  | _ => none }
def termsWithinOrderRow : OpenClaim := { program := "ytopfmcgmfnmikaa", sum := "6de65978eb39222186edc03cc6929be62143b357d7a8718e600ac0bb0b8c500d", func := "usher/usherlaw9.TermsWithinOrder", spec := "termsWithinOrder", apart := false }
def TermsWithinOrderSaid : Prop := termsWithinOrderRow.holds Try.pinned (OpenSpec.ofChange termsWithinOrderSpec)

/-- ITS FALSE NEIGHBOUR: 'it returns false'. Refute it at one input. -/
def termsWithinOrderWrong : ChangeSpec := { name := "termsWithinOrder", fn := fun _ => fun
  | [d] => { results := [.lit (.bool false)], args := [d] }
  | _ => none }
def TermsWithinOrderWrongFalsely : Prop := termsWithinOrderRow.holds Try.pinned (OpenSpec.ofChange termsWithinOrderWrong)

/-- 'usherlaw9.TermsScopeTexts': WHATEVER THE INPUT: true; the input reads as it did. -/
def termsScopeTextsSpec : ChangeSpec := { name := "termsScopeTexts", fn := fun _ => fun
  | [d] => { results := [.lit (.bool true)], args := [d] }
  | _ => none }
def termsScopeTextsRow : OpenClaim := { program := "ytopfmcgmfnmikaa", sum := "6de65978eb39222186edc03cc6929be62143b357d7a8718e600ac0bb0b8c500d", func := "usher/usherlaw9.TermsScopeTexts", spec := "termsScopeTexts", inPlace := ["internal/abi.NoEscape", "internal/bytealg.MakeNoZero"], apart := false }
def TermsScopeTextsSaid : Prop := termsScopeTextsRow.holds Try.pinned (OpenSpec.ofChange termsScopeTextsSpec)

/-- ITS FALSE NEIGHBOUR: 'it returns false'. Refute it at one input. -/
def termsScopeTextsWrong : ChangeSpec := { name := "termsScopeTexts", fn := fun _ => fun
  | [d] => { results := [.lit (.bool false)], args := [d] }
  | _ => none }
def TermsScopeTextsWrongFalsely : Prop := termsScopeTextsRow.holds Try.pinned (OpenSpec.ofChange termsScopeTextsWrong)

/-- 'usherlaw9.TermsSplits': WHATEVER THE INPUT: true; the input reads as it did. -/
def termsSplitsSpec : ChangeSpec := { name := "termsSplits", fn := fun _ => fun
  | [d] => { results := [.lit (.bool true)], args := [d] }
  | _ => none }
def termsSplitsRow : OpenClaim := { program := "ytopfmcgmfnmikaa", sum := "6de65978eb39222186edc03cc6929be62143b357d7a8718e600ac0bb0b8c500d", func := "usher/usherlaw9.TermsSplits", spec := "termsSplits", inPlace := ["internal/bytealg.IndexByteString", "internal/bytealg.IndexString"], named := ["internal/bytealg.MaxLen"], apart := false }
def TermsSplitsSaid : Prop := termsSplitsRow.holds Try.pinned (OpenSpec.ofChange termsSplitsSpec)

/-- ITS FALSE NEIGHBOUR: 'it returns false'. Refute it at one input. -/
def termsSplitsWrong : ChangeSpec := { name := "termsSplits", fn := fun _ => fun
  | [d] => { results := [.lit (.bool false)], args := [d] }
  | _ => none }
def TermsSplitsWrongFalsely : Prop := termsSplitsRow.holds Try.pinned (OpenSpec.ofChange termsSplitsWrong)

/-- 'usherlaw9.TermsSplitBack': WHATEVER THE INPUT: true; the input reads as it did. -/
def termsSplitBackSpec : ChangeSpec := { name := "termsSplitBack", fn := fun _ => fun
  | [d] => { results := [.lit (.bool true)], args := [d] }
  | _ => none }
def termsSplitBackRow : OpenClaim := { program := "ytopfmcgmfnmikaa", sum := "6de65978eb39222186edc03cc6929be62143b357d7a8718e600ac0bb0b8c500d", func := "usher/usherlaw9.TermsSplitBack", spec := "termsSplitBack", inPlace := ["internal/bytealg.IndexByteString", "internal/bytealg.IndexString"], named := ["internal/bytealg.MaxLen"], apart := false }
def TermsSplitBackSaid : Prop := termsSplitBackRow.holds Try.pinned (OpenSpec.ofChange termsSplitBackSpec)

/-- ITS FALSE NEIGHBOUR: 'it returns false'. Refute it at one input. -/
def termsSplitBackWrong : ChangeSpec := { name := "termsSplitBack", fn := fun _ => fun
  | [d] => { results := [.lit (.bool false)], args := [d] }
  | _ => none }
def TermsSplitBackWrongFalsely : Prop := termsSplitBackRow.holds Try.pinned (OpenSpec.ofChange termsSplitBackWrong)

/- THE SECOND FORM. 'bulk': how many values and letters a reading holds, each counted each time it is reached (what is shared counts as often as it is met; a slice's spare places count too). A statement '..UptoSaid' is the law's where the arguments, and the package variables that the reading takes, are together of bulk at most 1048576: NARROWER than '..Said'. Prove '..Said' where nothing that the law and all that it calls make is longer than what came in: it says more and counts as full. Else prove '..UptoSaid'. A law counts once. -/
mutual
def uptoBulk {H : Type} : DataW H → Nat
  | .lit (.string bytes) => bytes.length + 1
  | .lit _ => 1
  | .nil => 1
  | .ptr d => uptoBulk d + 1
  | .slice elems spare => uptoBulkAll elems + uptoBulkAll spare + 1
  | .agg parts => uptoBulkAll parts + 1
  | .iface _ d => uptoBulk d + 1
  | .map entries => uptoBulkEntries entries + 1
  | .held _ => 1
def uptoBulkAll {H : Type} : List (DataW H) → Nat
  | [] => 0
  | d :: r => uptoBulk d + uptoBulkAll r
def uptoBulkEntries {H : Type} : List (Lit × DataW H) → Nat
  | [] => 0
  | x :: r => uptoBulkEntry x + uptoBulkEntries r
def uptoBulkEntry {H : Type} : Lit × DataW H → Nat
  | (.string bytes, d) => bytes.length + uptoBulk d + 1
  | (_, d) => uptoBulk d + 1
 end
def uptoSmall : (H : Type) → List (DataW H) → Bool := fun _ ds => decide (uptoBulkAll ds ≤ 1048576)
def OpenSpec.upto (s : _root_.Go.ChangeSpec) : _root_.Go.OpenSpec := { _root_.Go.OpenSpec.ofChange s with cond := some uptoSmall }

/-- 'usherlaw9.TermsNames', WHERE WHAT IT READS IS OF BULK AT MOST 1048576: true; the input reads as it did. -/
def termsNamesUptoRow : OpenClaim := { program := "ytopfmcgmfnmikaa", sum := "6de65978eb39222186edc03cc6929be62143b357d7a8718e600ac0bb0b8c500d", func := "usher/usherlaw9.TermsNames", spec := "termsNames", apart := false, narrowed := true }
def TermsNamesUptoSaid : Prop := termsNamesUptoRow.holds Try.pinned (OpenSpec.upto termsNamesSpec)

/-- 'usherlaw9.TermsWithins', WHERE WHAT IT READS IS OF BULK AT MOST 1048576: true; the input reads as it did. -/
def termsWithinsUptoRow : OpenClaim := { program := "ytopfmcgmfnmikaa", sum := "6de65978eb39222186edc03cc6929be62143b357d7a8718e600ac0bb0b8c500d", func := "usher/usherlaw9.TermsWithins", spec := "termsWithins", apart := false, narrowed := true }
def TermsWithinsUptoSaid : Prop := termsWithinsUptoRow.holds Try.pinned (OpenSpec.upto termsWithinsSpec)

/-- 'usherlaw9.TermsWithinOrder', WHERE WHAT IT READS IS OF BULK AT MOST 1048576: true; the input reads as it did. -/
def termsWithinOrderUptoRow : OpenClaim := { program := "ytopfmcgmfnmikaa", sum := "6de65978eb39222186edc03cc6929be62143b357d7a8718e600ac0bb0b8c500d", func := "usher/usherlaw9.TermsWithinOrder", spec := "termsWithinOrder", apart := false, narrowed := true }
def TermsWithinOrderUptoSaid : Prop := termsWithinOrderUptoRow.holds Try.pinned (OpenSpec.upto termsWithinOrderSpec)

/-- 'usherlaw9.TermsScopeTexts', WHERE WHAT IT READS IS OF BULK AT MOST 1048576: true; the input reads as it did. -/
def termsScopeTextsUptoRow : OpenClaim := { program := "ytopfmcgmfnmikaa", sum := "6de65978eb39222186edc03cc6929be62143b357d7a8718e600ac0bb0b8c500d", func := "usher/usherlaw9.TermsScopeTexts", spec := "termsScopeTexts", inPlace := ["internal/abi.NoEscape", "internal/bytealg.MakeNoZero"], apart := false, narrowed := true }
def TermsScopeTextsUptoSaid : Prop := termsScopeTextsUptoRow.holds Try.pinned (OpenSpec.upto termsScopeTextsSpec)

/-- 'usherlaw9.TermsSplits', WHERE WHAT IT READS IS OF BULK AT MOST 1048576: true; the input reads as it did. -/
def termsSplitsUptoRow : OpenClaim := { program := "ytopfmcgmfnmikaa", sum := "6de65978eb39222186edc03cc6929be62143b357d7a8718e600ac0bb0b8c500d", func := "usher/usherlaw9.TermsSplits", spec := "termsSplits", inPlace := ["internal/bytealg.IndexByteString", "internal/bytealg.IndexString"], named := ["internal/bytealg.MaxLen"], apart := false, narrowed := true }
def TermsSplitsUptoSaid : Prop := termsSplitsUptoRow.holds Try.pinned (OpenSpec.upto termsSplitsSpec)

/-- 'usherlaw9.TermsSplitBack', WHERE WHAT IT READS IS OF BULK AT MOST 1048576: true; the input reads as it did. -/
def termsSplitBackUptoRow : OpenClaim := { program := "ytopfmcgmfnmikaa", sum := "6de65978eb39222186edc03cc6929be62143b357d7a8718e600ac0bb0b8c500d", func := "usher/usherlaw9.TermsSplitBack", spec := "termsSplitBack", inPlace := ["internal/bytealg.IndexByteString", "internal/bytealg.IndexString"], named := ["internal/bytealg.MaxLen"], apart := false, narrowed := true }
def TermsSplitBackUptoSaid : Prop := termsSplitBackUptoRow.holds Try.pinned (OpenSpec.upto termsSplitBackSpec)

end Rows
end Go.Proofs.Ytopfmcgmfnmikaa
