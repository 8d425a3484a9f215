/- Lists of pairs of texts: pairs that are the same, pairs turned. No condition. -/
import Derived.Test.YtopfmcgmfnmikaaDoorYEv
-- IMPORTS
import Derived.Test.YtopfmcgmfnmikaaDoorXx0
import Derived.Test.YtopfmcgmfnmikaaDoorXx7
namespace Go.Proofs.YtopfmcgmfnmikaaDoor.Y
open Go.RowKit Go.Proofs.YtopfmcgmfnmikaaDoorW.PrintWords Go.Proofs.YtopfmcgmfnmikaaDoorW.PrintLast Go.Proofs.YtopfmcgmfnmikaaDoor.X
theorem samePairs_loop (l : List S29) (hl : l.length < 9223372036854775807) (d : Nat) : ∀ (i : Int), 0 ≤ i → (l.length : Int) - i = d →
    Ev (fun k => usherref0_SamePairs.l0 k l l i) true := by
  induction d with
  | zero =>
    intro i h0 hd
    refine Ev.succ ?_
    simp only [usherref0_SamePairs.l0]
    exact Ev.neg (by omega) (Ev.pure _)
  | succ d ih =>
    intro i h0 hd
    have hlt : i < l.length := by omega
    refine Ev.succ ?_
    simp only [usherref0_SamePairs.l0]
    refine Ev.pos hlt (Ev.pos h0 (Ev.pos hlt (Ev.neg (by simp) ?_)))
    rw [wr (by omega) (by omega)]
    exact ih (i + 1) (by omega) (by omega)
theorem samePairs_self (l : List S29) (hl : l.length < 9223372036854775807) : Ev (fun k => usherref0_SamePairs.f k l l) true := by
  simp only [usherref0_SamePairs.f]
  exact Ev.pos trivial (samePairs_loop l hl l.length 0 (Int.le_refl _) (by omega))
end Go.Proofs.YtopfmcgmfnmikaaDoor.Y
