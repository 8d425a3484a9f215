/- TermsRedirects in plain words. No condition. -/
import Derived.Test.YtopfmcgmfnmikaaDoorYRedR
-- IMPORTS
import Derived.Test.YtopfmcgmfnmikaaDoorXx15
namespace Go.Proofs.YtopfmcgmfnmikaaDoor.Y
open Go.RowKit Go.Proofs.YtopfmcgmfnmikaaDoorW.PrintWords Go.Proofs.YtopfmcgmfnmikaaDoorW.PrintLast Go.Proofs.YtopfmcgmfnmikaaDoor.X
theorem redirects (s : ByteArray) {F G : Prop} (_ : F) (_ : G) : ∃ k, usherlaw9_TermsRedirects.f k s = some true := by
  refine Ev.at_ ?_
  simp only [usherlaw9_TermsRedirects.f]
  refine Ev.bind (red_is s) (Ev.bind (rred_is s) ?_)
  rw [red_eq]
  simpa using Ev.pure true
end Go.Proofs.YtopfmcgmfnmikaaDoor.Y
