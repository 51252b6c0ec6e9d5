/- Walks of functions that the law FnExactValText reaches, turned by this session from a print of which a part did not build; what was changed is listed in wip/patches of the proofs' repo. -/
import Derived.Test.YtliemdoegicbhaaProg
import Derived.Below
import Derived.Deep.Draws
import Derived.Deep.AppendLies
import Derived.Maps.AppendAt
import Derived.OwnWalk
import Derived.Laws.BytesArg
import Derived.Laws.MakeOwn
import Derived.Laws.OwnMore
import Derived.Deep.OwnRows
import Derived.Tactics
import Derived.Lib.ConvBytes
import Derived.Laws.Slices
import Derived.WalkKit
import Derived.KernelRfl
import Derived.RowKit3
import Derived.Deep.LoopGhost
import Derived.Deep.QuietTactic
import Derived.BigQuiet
import Derived.WideLaws
import Derived.Deep.DeepCutAuto
import Derived.Deep.CutBlock
import Derived.Deep.RegionHeld3
import Derived.Laws.Rows
import Derived.Lib.AppendStr
import Derived.ArgAppend
import Derived.Laws.IdiomCopy
import Derived.OrdersHeld
import Derived.Laws.BitsLemmas
import Derived.RowKit
import Derived.Laws.Cover1
import Derived.Test.YtliemdoegicbhaaWWords
import Derived.Test.YtliemdoegicbhaaWLast
import Derived.Test.YtliemdoegicbhaaWTab
import Derived.Test.YtliemdoegicbhaaWFour
import Derived.Test.YtliemdoegicbhaaWQPut
import Derived.Test.YtliemdoegicbhaaWApart
import Derived.Test.YtliemdoegicbhaaWArr
import Derived.Test.YtliemdoegicbhaaWZeros
import Derived.Test.YtliemdoegicbhaaWFoot
import Derived.Test.YtliemdoegicbhaaWKept
import Derived.Test.YtliemdoegicbhaaWShare
import Derived.Test.YtliemdoegicbhaaWN
import Derived.Test.YtliemdoegicbhaaWFootNe
import Derived.Test.YtliemdoegicbhaaWAt
import Derived.Test.YtliemdoegicbhaaWEqStruct
import Derived.Test.YtliemdoegicbhaaWRepsOne
import Derived.Test.YtliemdoegicbhaaWInv
import Derived.Test.YtliemdoegicbhaaWInvWords
import Derived.Test.YtliemdoegicbhaaWGuard
import Derived.Test.YtliemdoegicbhaaWNEv
import Derived.Test.YtliemdoegicbhaaWMore
namespace Go.Proofs.Ytliemdoegicbhaa.PFnExactValText
open Go.RowKit Go.Proofs.YtliemdoegicbhaaW.PrintWords Go.Proofs.YtliemdoegicbhaaW.PrintLast Go.Proofs.YtliemdoegicbhaaW.PrintMore
attribute [local go_sem] max2_int min2_int max_two min_two max_three min_three max_four min_four   -- for this text's walks alone
set_option linter.unusedVariables false
set_option linter.unusedSimpArgs false



def errW : Option Int → Value
  | none => .nilIface
  | some c => .iface 0 (.int .i64 c)
theorem errW_none : errW none = .nilIface := rfl
theorem errW_some (c : Int) : errW (some c) = .iface 0 (.int .i64 c) := rfl

theorem info5 : (Try.prog.info? 5).map (fun i => (i.zero, i.size, i.bytes)) = some (some (.int .u8 0), 1, 1) := by kernel_rfl
theorem info9 : (Try.prog.info? 9).map (fun i => (i.zero, i.size, i.bytes)) = some (some (.string ⟨#[]⟩), 1, 16) := by kernel_rfl
-- the values' own types

end Go.Proofs.Ytliemdoegicbhaa.PFnExactValText
