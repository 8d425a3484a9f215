/- PctEscapes in plain words. Condition: the text has at most 1048576 bytes. -/
import Derived.Test.YtlnjomhmffdfnaaDoorYEsc
-- IMPORTS
import Derived.Test.YtlnjomhmffdfnaaDoorXx3
namespace Go.Proofs.YtlnjomhmffdfnaaDoor.Y
open Go.RowKit Go.Proofs.YtlnjomhmffdfnaaDoorW.PrintWords Go.Proofs.YtlnjomhmffdfnaaDoorW.PrintLast Go.Proofs.YtlnjomhmffdfnaaDoor.X
theorem escapes (s : ByteArray) (plus : Bool) {F : Prop} (_ : F) (hB : (s.size + 1 + 1) + 1 ≤ 1048576) : ∃ k, usherlaw3_PctEscapes.f k s plus = some true := by
  refine Ev.at_ ?_
  simp only [usherlaw3_PctEscapes.f, escape_is s plus (by omega), Option.bind_some]
  refine Ev.bind (refEscape_is s plus (by omega)) ?_
  simp only [beq_self_eq_true]
  exact Ev.pure _
end Go.Proofs.YtlnjomhmffdfnaaDoor.Y
