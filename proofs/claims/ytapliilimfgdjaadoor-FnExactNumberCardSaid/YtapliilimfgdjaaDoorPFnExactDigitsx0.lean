-- Written by xprint.py, a program of this session over the kit's print. Not trusted: Lean checks it.
import Derived.Test.YtapliilimfgdjaaDoorProg
import Derived.Lib.SliceRun
import Derived.Below
import Derived.Deep.Draws
import Derived.Deep.AppendLies
import Derived.Maps.AppendAt
import Derived.OwnWalk
import Derived.Laws.BytesArg
import Derived.Laws.MakeOwn
import Derived.Laws.OwnMore
import Derived.Deep.OwnRows
import Derived.Tactics
import Derived.Lib.ConvBytes
import Derived.Laws.Slices
import Derived.WalkKit
import Derived.KernelRfl
import Derived.RowKit3
import Derived.Deep.LoopGhost
import Derived.Deep.QuietTactic
import Derived.BigQuiet
import Derived.WideLaws
import Derived.Deep.DeepCutAuto
import Derived.Deep.CutBlock
import Derived.Deep.RegionHeld3
import Derived.Laws.Rows
import Derived.Lib.AppendStr
import Derived.ArgAppend
import Derived.Laws.IdiomCopy
import Derived.OrdersHeld
import Derived.Laws.BitsLemmas
import Derived.RowKit
import Derived.Test.YtapliilimfgdjaaDoorWWords
import Derived.Test.YtapliilimfgdjaaDoorWLast
import Derived.Test.YtapliilimfgdjaaDoorWTab
import Derived.Test.YtapliilimfgdjaaDoorWFour
import Derived.Test.YtapliilimfgdjaaDoorWQPut
import Derived.Test.YtapliilimfgdjaaDoorWApart
import Derived.Test.YtapliilimfgdjaaDoorWArr
import Derived.Test.YtapliilimfgdjaaDoorWZeros
import Derived.Test.YtapliilimfgdjaaDoorWFoot
import Derived.Test.YtapliilimfgdjaaDoorWKept
import Derived.Test.YtapliilimfgdjaaDoorWShare
import Derived.Test.YtapliilimfgdjaaDoorWN
import Derived.Test.YtapliilimfgdjaaDoorWFootNe
import Derived.Test.YtapliilimfgdjaaDoorWAt
import Derived.Test.YtapliilimfgdjaaDoorWEqStruct
import Derived.Test.YtapliilimfgdjaaDoorWRepsOne
import Derived.Test.YtapliilimfgdjaaDoorWInv
import Derived.Test.YtapliilimfgdjaaDoorWInvWords
import Derived.Test.YtapliilimfgdjaaDoorWGuard
import Derived.Test.YtapliilimfgdjaaDoorWNEv
import Derived.Test.YtapliilimfgdjaaDoorWMore
import Derived.Test.YtapliilimfgdjaaDoorWMine
namespace Go.Proofs.YtapliilimfgdjaaDoor.PFnExactDigits
open Go.RowKit Go.Proofs.YtapliilimfgdjaaDoorW.PrintWords Go.Proofs.YtapliilimfgdjaaDoorW.PrintLast Go.Proofs.YtapliilimfgdjaaDoorW.PrintMore
attribute [local go_sem] max2_int min2_int max_two min_two max_three min_three max_four min_four   -- for this text's walks alone
set_option linter.unusedVariables false
set_option linter.unusedSimpArgs false



def errW : Option Int → Value
  | none => .nilIface
  | some c => .iface 0 (.int .i64 c)
theorem errW_none : errW none = .nilIface := rfl
theorem errW_some (c : Int) : errW (some c) = .iface 0 (.int .i64 c) := rfl

theorem info5 : (Tryd.prog.info? 5).map (fun i => (i.zero, i.size, i.bytes)) = some (some (.int .u8 0), 1, 1) := by kernel_rfl
-- the values' own types

end Go.Proofs.YtapliilimfgdjaaDoor.PFnExactDigits
