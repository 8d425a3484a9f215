-- Printed by a program of this session (wip/xprint), not by the kit's print.
import Derived.Test.YtmaedmmcjhmheaaDoorProg
import Derived.Below
import Derived.Deep.Draws
import Derived.Deep.AppendLies
import Derived.Maps.AppendAt
import Derived.OwnWalk
import Derived.Laws.BytesArg
import Derived.Laws.MakeOwn
import Derived.Laws.OwnMore
import Derived.Deep.OwnRows
import Derived.Tactics
import Derived.Lib.ConvBytes
import Derived.Laws.Slices
import Derived.WalkKit
import Derived.KernelRfl
import Derived.RowKit3
import Derived.Deep.LoopGhost
import Derived.Deep.QuietTactic
import Derived.BigQuiet
import Derived.WideLaws
import Derived.Deep.DeepCutAuto
import Derived.Deep.CutBlock
import Derived.Deep.RegionHeld3
import Derived.Laws.Rows
import Derived.Lib.AppendStr
import Derived.ArgAppend
import Derived.Laws.IdiomCopy
import Derived.OrdersHeld
import Derived.Laws.BitsLemmas
import Derived.RowKit
import Derived.Test.YtmaedmmcjhmheaaDoorXBase
import Derived.Test.YtmaedmmcjhmheaaDoorXPage
import Derived.Test.YtmaedmmcjhmheaaDoorXUnesc
import Derived.Test.YtmaedmmcjhmheaaDoorWWords
import Derived.Test.YtmaedmmcjhmheaaDoorWLast
import Derived.Test.YtmaedmmcjhmheaaDoorWTab
import Derived.Test.YtmaedmmcjhmheaaDoorWFour
import Derived.Test.YtmaedmmcjhmheaaDoorWQPut
import Derived.Test.YtmaedmmcjhmheaaDoorWApart
import Derived.Test.YtmaedmmcjhmheaaDoorWArr
import Derived.Test.YtmaedmmcjhmheaaDoorWZeros
import Derived.Test.YtmaedmmcjhmheaaDoorWFoot
import Derived.Test.YtmaedmmcjhmheaaDoorWKept
import Derived.Test.YtmaedmmcjhmheaaDoorWShare
import Derived.Test.YtmaedmmcjhmheaaDoorWN
import Derived.Test.YtmaedmmcjhmheaaDoorWFootNe
import Derived.Test.YtmaedmmcjhmheaaDoorWAt
import Derived.Test.YtmaedmmcjhmheaaDoorWEqStruct
import Derived.Test.YtmaedmmcjhmheaaDoorWRepsOne
import Derived.Test.YtmaedmmcjhmheaaDoorWInv
import Derived.Test.YtmaedmmcjhmheaaDoorWInvWords
import Derived.Test.YtmaedmmcjhmheaaDoorWGuard
import Derived.Test.YtmaedmmcjhmheaaDoorWNEv
import Derived.Test.YtmaedmmcjhmheaaDoorWMore
namespace Go.Proofs.YtmaedmmcjhmheaaDoor.X
open Go.RowKit Go.Proofs.YtmaedmmcjhmheaaDoorW.PrintWords Go.Proofs.YtmaedmmcjhmheaaDoorW.PrintLast Go.Proofs.YtmaedmmcjhmheaaDoorW.PrintMore
attribute [local go_sem] max2_int min2_int max_two min_two max_three min_three max_four min_four   -- for this text's walks alone
set_option linter.unusedVariables false
set_option linter.unusedSimpArgs false
open Go.Proofs.YtmaedmmcjhmheaaDoor
attribute [local go_sem] ErrBlk_alloc ErrBlk_drew ErrBlk_drewN errs_eql errs_neq nil_errs_eql nil_errs_neq
variable {EA : Int → Addr} {SS : List Int}




theorem info5 : (Tryd.prog.info? 5).map (fun i => (i.zero, i.size, i.bytes)) = some (some (.int .u8 0), 1, 1) := by kernel_rfl
-- the values' own types

end Go.Proofs.YtmaedmmcjhmheaaDoor.X
