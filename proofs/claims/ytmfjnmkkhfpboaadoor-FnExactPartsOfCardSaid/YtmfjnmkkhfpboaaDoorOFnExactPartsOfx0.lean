/- Walks of functions that the law FnExactPartsOf reaches, turned by this session from a print of which a part did not build; what was changed is listed in wip/patches of the proofs' repo. -/
import Derived.Test.YtmfjnmkkhfpboaaDoorProg
import Derived.Below
import Derived.Deep.Draws
import Derived.Deep.AppendLies
import Derived.Maps.AppendAt
import Derived.OwnWalk
import Derived.Laws.BytesArg
import Derived.Laws.MakeOwn
import Derived.Laws.OwnMore
import Derived.Deep.OwnRows
import Derived.Tactics
import Derived.Lib.ConvBytes
import Derived.Laws.Slices
import Derived.WalkKit
import Derived.KernelRfl
import Derived.RowKit3
import Derived.Deep.LoopGhost
import Derived.Deep.QuietTactic
import Derived.BigQuiet
import Derived.WideLaws
import Derived.Deep.DeepCutAuto
import Derived.Deep.CutBlock
import Derived.Deep.RegionHeld3
import Derived.Laws.Rows
import Derived.Lib.AppendStr
import Derived.ArgAppend
import Derived.Laws.IdiomCopy
import Derived.OrdersHeld
import Derived.Laws.BitsLemmas
import Derived.RowKit
import Derived.Laws.Cover1
import Derived.Lib.AppendIntMem
import Derived.Shelf.Strings.Fields
import Derived.Test.YtmfjnmkkhfpboaaDoorWWords
import Derived.Test.YtmfjnmkkhfpboaaDoorWLast
import Derived.Test.YtmfjnmkkhfpboaaDoorWTab
import Derived.Test.YtmfjnmkkhfpboaaDoorWFour
import Derived.Test.YtmfjnmkkhfpboaaDoorWQPut
import Derived.Test.YtmfjnmkkhfpboaaDoorWApart
import Derived.Test.YtmfjnmkkhfpboaaDoorWArr
import Derived.Test.YtmfjnmkkhfpboaaDoorWZeros
import Derived.Test.YtmfjnmkkhfpboaaDoorWFoot
import Derived.Test.YtmfjnmkkhfpboaaDoorWKept
import Derived.Test.YtmfjnmkkhfpboaaDoorWShare
import Derived.Test.YtmfjnmkkhfpboaaDoorWN
import Derived.Test.YtmfjnmkkhfpboaaDoorWFootNe
import Derived.Test.YtmfjnmkkhfpboaaDoorWAt
import Derived.Test.YtmfjnmkkhfpboaaDoorWEqStruct
import Derived.Test.YtmfjnmkkhfpboaaDoorWRepsOne
import Derived.Test.YtmfjnmkkhfpboaaDoorWInv
import Derived.Test.YtmfjnmkkhfpboaaDoorWInvWords
import Derived.Test.YtmfjnmkkhfpboaaDoorWGuard
import Derived.Test.YtmfjnmkkhfpboaaDoorWNEv
import Derived.Test.YtmfjnmkkhfpboaaDoorWMore
namespace Go.Proofs.YtmfjnmkkhfpboaaDoor.PFnExactPartsOf
open Go.RowKit Go.Proofs.YtmfjnmkkhfpboaaDoorW.PrintWords Go.Proofs.YtmfjnmkkhfpboaaDoorW.PrintLast Go.Proofs.YtmfjnmkkhfpboaaDoorW.PrintMore
attribute [local go_sem] max2_int min2_int max_two min_two max_three min_three max_four min_four   -- for this text's walks alone
set_option linter.unusedVariables false
set_option linter.unusedSimpArgs false



def errW : Option Int → Value
  | none => .nilIface
  | some c => .iface 0 (.int .i64 c)
theorem errW_none : errW none = .nilIface := rfl
theorem errW_some (c : Int) : errW (some c) = .iface 0 (.int .i64 c) := rfl

theorem info5 : (Tryd.prog.info? 5).map (fun i => (i.zero, i.size, i.bytes)) = some (some (.int .u8 0), 1, 1) := by kernel_rfl
theorem info9 : (Tryd.prog.info? 9).map (fun i => (i.zero, i.size, i.bytes)) = some (some (.string ⟨#[]⟩), 1, 16) := by kernel_rfl
-- the values' own types

end Go.Proofs.YtmfjnmkkhfpboaaDoor.PFnExactPartsOf
