-- Printed by a program of this session (wip/xprint), not by the kit's print.
import Derived.Test.YtopfmcgmfnmikaaProg
import Derived.Below
import Derived.Deep.Draws
import Derived.Deep.AppendLies
import Derived.Maps.AppendAt
import Derived.OwnWalk
import Derived.Laws.BytesArg
import Derived.Laws.MakeOwn
import Derived.Laws.OwnMore
import Derived.Deep.OwnRows
import Derived.Tactics
import Derived.Lib.ConvBytes
import Derived.Laws.Slices
import Derived.WalkKit
import Derived.KernelRfl
import Derived.RowKit3
import Derived.Deep.LoopGhost
import Derived.Deep.QuietTactic
import Derived.BigQuiet
import Derived.WideLaws
import Derived.Deep.DeepCutAuto
import Derived.Deep.CutBlock
import Derived.Deep.RegionHeld3
import Derived.Laws.Rows
import Derived.Lib.AppendStr
import Derived.ArgAppend
import Derived.Laws.IdiomCopy
import Derived.OrdersHeld
import Derived.Laws.BitsLemmas
import Derived.RowKit
import Derived.Test.YtopfmcgmfnmikaaXBase
import Derived.Test.YtopfmcgmfnmikaaXStrIx
import Derived.Test.YtopfmcgmfnmikaaXJoin
import Derived.Test.YtopfmcgmfnmikaaWWords
import Derived.Test.YtopfmcgmfnmikaaWLast
import Derived.Test.YtopfmcgmfnmikaaWTab
import Derived.Test.YtopfmcgmfnmikaaWFour
import Derived.Test.YtopfmcgmfnmikaaWQPut
import Derived.Test.YtopfmcgmfnmikaaWApart
import Derived.Test.YtopfmcgmfnmikaaWArr
import Derived.Test.YtopfmcgmfnmikaaWZeros
import Derived.Test.YtopfmcgmfnmikaaWFoot
import Derived.Test.YtopfmcgmfnmikaaWKept
import Derived.Test.YtopfmcgmfnmikaaWShare
import Derived.Test.YtopfmcgmfnmikaaWN
import Derived.Test.YtopfmcgmfnmikaaWFootNe
import Derived.Test.YtopfmcgmfnmikaaWAt
import Derived.Test.YtopfmcgmfnmikaaWEqStruct
import Derived.Test.YtopfmcgmfnmikaaWRepsOne
import Derived.Test.YtopfmcgmfnmikaaWInv
import Derived.Test.YtopfmcgmfnmikaaWInvWords
import Derived.Test.YtopfmcgmfnmikaaWGuard
import Derived.Test.YtopfmcgmfnmikaaWNEv
import Derived.Test.YtopfmcgmfnmikaaWMore
namespace Go.Proofs.Ytopfmcgmfnmikaa.X
open Go.RowKit Go.Proofs.YtopfmcgmfnmikaaW.PrintWords Go.Proofs.YtopfmcgmfnmikaaW.PrintLast Go.Proofs.YtopfmcgmfnmikaaW.PrintMore
attribute [local go_sem] max2_int min2_int max_two min_two max_three min_three max_four min_four   -- for this text's walks alone
set_option linter.unusedVariables false
set_option linter.unusedSimpArgs false
open Go.Proofs.Ytopfmcgmfnmikaa
attribute [local go_sem] ErrBlk_alloc ErrBlk_drew ErrBlk_drewN
variable {EA : Int → Addr} {SS : List Int}




theorem info9 : (Try.prog.info? 9).map (fun i => (i.zero, i.size, i.bytes)) = some (some (.string ⟨#[]⟩), 1, 16) := by kernel_rfl
-- the values' own types

end Go.Proofs.Ytopfmcgmfnmikaa.X
