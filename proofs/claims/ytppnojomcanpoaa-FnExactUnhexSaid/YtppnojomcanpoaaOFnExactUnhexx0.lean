/- Walks of functions that the law FnExactUnhex reaches, turned by this session from a print of which a part did not build; what was changed is listed in wip/patches of the proofs' repo. -/
import Derived.Test.YtppnojomcanpoaaProg
import Derived.Below
import Derived.Deep.Draws
import Derived.Deep.AppendLies
import Derived.Maps.AppendAt
import Derived.OwnWalk
import Derived.Laws.BytesArg
import Derived.Laws.MakeOwn
import Derived.Laws.OwnMore
import Derived.Deep.OwnRows
import Derived.Tactics
import Derived.Lib.ConvBytes
import Derived.Laws.Slices
import Derived.WalkKit
import Derived.KernelRfl
import Derived.RowKit3
import Derived.Deep.LoopGhost
import Derived.Deep.QuietTactic
import Derived.BigQuiet
import Derived.WideLaws
import Derived.Deep.DeepCutAuto
import Derived.Deep.CutBlock
import Derived.Deep.RegionHeld3
import Derived.Laws.Rows
import Derived.Lib.AppendStr
import Derived.ArgAppend
import Derived.Laws.IdiomCopy
import Derived.OrdersHeld
import Derived.Laws.BitsLemmas
import Derived.RowKit
import Derived.Lib.Bytealg
import Derived.BigCall
import Derived.Test.YtppnojomcanpoaaWWords
import Derived.Test.YtppnojomcanpoaaWLast
import Derived.Test.YtppnojomcanpoaaWTab
import Derived.Test.YtppnojomcanpoaaWFour
import Derived.Test.YtppnojomcanpoaaWQPut
import Derived.Test.YtppnojomcanpoaaWApart
import Derived.Test.YtppnojomcanpoaaWArr
import Derived.Test.YtppnojomcanpoaaWZeros
import Derived.Test.YtppnojomcanpoaaWFoot
import Derived.Test.YtppnojomcanpoaaWKept
import Derived.Test.YtppnojomcanpoaaWShare
import Derived.Test.YtppnojomcanpoaaWN
import Derived.Test.YtppnojomcanpoaaWFootNe
import Derived.Test.YtppnojomcanpoaaWAt
import Derived.Test.YtppnojomcanpoaaWEqStruct
import Derived.Test.YtppnojomcanpoaaWRepsOne
import Derived.Test.YtppnojomcanpoaaWInv
import Derived.Test.YtppnojomcanpoaaWInvWords
import Derived.Test.YtppnojomcanpoaaWGuard
import Derived.Test.YtppnojomcanpoaaWNEv
import Derived.Test.YtppnojomcanpoaaWMore
namespace Go.Proofs.Ytppnojomcanpoaa.PFnExactUnhex
open Go.RowKit Go.Proofs.YtppnojomcanpoaaW.PrintWords Go.Proofs.YtppnojomcanpoaaW.PrintLast Go.Proofs.YtppnojomcanpoaaW.PrintMore
attribute [local go_sem] max2_int min2_int max_two min_two max_three min_three max_four min_four   -- for this text's walks alone
set_option linter.unusedVariables false
set_option linter.unusedSimpArgs false



def errW : Option Int → Value
  | none => .nilIface
  | some c => .iface 0 (.int .i64 c)
theorem errW_none : errW none = .nilIface := rfl
theorem errW_some (c : Int) : errW (some c) = .iface 0 (.int .i64 c) := rfl

theorem info5 : (Try.prog.info? 5).map (fun i => (i.zero, i.size, i.bytes)) = some (some (.int .u8 0), 1, 1) := by kernel_rfl
-- the values' own types

end Go.Proofs.Ytppnojomcanpoaa.PFnExactUnhex
