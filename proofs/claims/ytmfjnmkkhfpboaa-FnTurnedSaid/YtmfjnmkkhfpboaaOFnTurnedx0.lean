/- Walks of functions that the law FnTurned reaches, turned by this session from a print of which a part did not build; what was changed is listed in wip/patches of the proofs' repo. -/
import Derived.Test.YtmfjnmkkhfpboaaProg
import Derived.Below
import Derived.Deep.Draws
import Derived.Deep.AppendLies
import Derived.Maps.AppendAt
import Derived.OwnWalk
import Derived.Laws.BytesArg
import Derived.Laws.MakeOwn
import Derived.Laws.OwnMore
import Derived.Deep.OwnRows
import Derived.Tactics
import Derived.Lib.ConvBytes
import Derived.Laws.Slices
import Derived.WalkKit
import Derived.KernelRfl
import Derived.RowKit3
import Derived.Deep.LoopGhost
import Derived.Deep.QuietTactic
import Derived.BigQuiet
import Derived.WideLaws
import Derived.Deep.DeepCutAuto
import Derived.Deep.CutBlock
import Derived.Deep.RegionHeld3
import Derived.Laws.Rows
import Derived.Lib.AppendStr
import Derived.ArgAppend
import Derived.Laws.IdiomCopy
import Derived.OrdersHeld
import Derived.Laws.BitsLemmas
import Derived.RowKit
import Derived.Test.YtmfjnmkkhfpboaaWWords
import Derived.Test.YtmfjnmkkhfpboaaWLast
import Derived.Test.YtmfjnmkkhfpboaaWTab
import Derived.Test.YtmfjnmkkhfpboaaWFour
import Derived.Test.YtmfjnmkkhfpboaaWQPut
import Derived.Test.YtmfjnmkkhfpboaaWApart
import Derived.Test.YtmfjnmkkhfpboaaWArr
import Derived.Test.YtmfjnmkkhfpboaaWZeros
import Derived.Test.YtmfjnmkkhfpboaaWFoot
import Derived.Test.YtmfjnmkkhfpboaaWKept
import Derived.Test.YtmfjnmkkhfpboaaWShare
import Derived.Test.YtmfjnmkkhfpboaaWN
import Derived.Test.YtmfjnmkkhfpboaaWFootNe
import Derived.Test.YtmfjnmkkhfpboaaWAt
import Derived.Test.YtmfjnmkkhfpboaaWEqStruct
import Derived.Test.YtmfjnmkkhfpboaaWRepsOne
import Derived.Test.YtmfjnmkkhfpboaaWInv
import Derived.Test.YtmfjnmkkhfpboaaWInvWords
import Derived.Test.YtmfjnmkkhfpboaaWGuard
import Derived.Test.YtmfjnmkkhfpboaaWNEv
import Derived.Test.YtmfjnmkkhfpboaaWMore
namespace Go.Proofs.Ytmfjnmkkhfpboaa.PFnTurned
open Go.RowKit Go.Proofs.YtmfjnmkkhfpboaaW.PrintWords Go.Proofs.YtmfjnmkkhfpboaaW.PrintLast Go.Proofs.YtmfjnmkkhfpboaaW.PrintMore
attribute [local go_sem] max2_int min2_int max_two min_two max_three min_three max_four min_four   -- for this text's walks alone
set_option linter.unusedVariables false
set_option linter.unusedSimpArgs false



def errW : Option Int → Value
  | none => .nilIface
  | some c => .iface 0 (.int .i64 c)
theorem errW_none : errW none = .nilIface := rfl
theorem errW_some (c : Int) : errW (some c) = .iface 0 (.int .i64 c) := rfl

theorem info3 : (Try.prog.info? 3).map (fun i => (i.zero, i.size, i.bytes)) = some (some (.int .i64 0), 1, 8) := by kernel_rfl
theorem info5 : (Try.prog.info? 5).map (fun i => (i.zero, i.size, i.bytes)) = some (some (.int .u8 0), 1, 1) := by kernel_rfl
-- the values' own types

end Go.Proofs.Ytmfjnmkkhfpboaa.PFnTurned
