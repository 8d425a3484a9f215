/- PctBack in plain words: Unescape of Escape is the text. Condition: the text has at most 1048576 bytes. -/
import Derived.Test.YtlnjomhmffdfnaaDoorYForm
-- IMPORTS
import Derived.Test.YtlnjomhmffdfnaaDoorXx14
namespace Go.Proofs.YtlnjomhmffdfnaaDoor.Y
open Go.RowKit Go.Proofs.YtlnjomhmffdfnaaDoorW.PrintWords Go.Proofs.YtlnjomhmffdfnaaDoorW.PrintLast Go.Proofs.YtlnjomhmffdfnaaDoor.X
theorem back (s : ByteArray) (plus : Bool) {F : Prop} (_ : F) (hB : (s.size + 1 + 1) + 1 ≤ 1048576) : ∃ k, usherlaw3_PctBack.f k s plus = some true := by
  have hsz : (strOfNums (escIL plus (bytesOf s))).size ≤ 3 * s.size := by rw [strOfNums_size]; exact escIL_le plus s
  refine ⟨2 * (strOfNums (escIL plus (bytesOf s))).size + 4, ?_⟩
  simp only [usherlaw3_PctBack.f, escape_is s plus (by omega), Option.bind_some]
  rw [Unescape_is _ plus (by omega) _ (Nat.le_refl _), bytesOf_strOfNums (escIL_range plus s), ue_esc plus _ (bytesOf_range s)]
  simp [pRes, strOfNums_bytesOf]
end Go.Proofs.YtlnjomhmffdfnaaDoor.Y
