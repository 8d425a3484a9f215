/- PctUnescapes in plain words: both answers are one. -/
import Derived.Test.YtlnjomhmffdfnaaDoorYUnesc
-- IMPORTS
import Derived.Test.YtlnjomhmffdfnaaDoorXx6
namespace Go.Proofs.YtlnjomhmffdfnaaDoor.Y
open Go.RowKit Go.Proofs.YtlnjomhmffdfnaaDoorW.PrintWords Go.Proofs.YtlnjomhmffdfnaaDoorW.PrintLast Go.Proofs.YtlnjomhmffdfnaaDoor.X
theorem PctUnescapes (s : ByteArray) (plus : Bool) (_hF : s.size ≤ 9223372036854775807 ∧ True) (hS : s.size ≤ 140737488351232 ∧ True) : ∃ k, usherlaw3_PctUnescapes.f k s plus = some true := by
  refine ⟨2 * s.size + 4, ?_⟩
  unfold usherlaw3_PctUnescapes.f
  rw [Unescape_is s plus hS.1 _ (Nat.le_refl _), refUnescape_is s plus hS.1 _ (Nat.le_refl _)]
  simp only [Option.bind_some]
  cases ue plus 0 0 (bytesOf s) with
  | none => simp [pRes, rRes, usherkit_Num.f]
  | some l => simp [pRes, rRes, usherkit_Num.f]
end Go.Proofs.YtlnjomhmffdfnaaDoor.Y
