-- Written by xprint.py, a program of this session over the kit's print. Not trusted: Lean checks it.
import Derived.Test.YtebfpnaofbpbjaaProg
import Derived.Below
import Derived.Deep.Draws
import Derived.Deep.AppendLies
import Derived.Maps.AppendAt
import Derived.OwnWalk
import Derived.Laws.BytesArg
import Derived.Laws.MakeOwn
import Derived.Laws.OwnMore
import Derived.Deep.OwnRows
import Derived.Tactics
import Derived.Lib.ConvBytes
import Derived.Laws.Slices
import Derived.WalkKit
import Derived.KernelRfl
import Derived.RowKit3
import Derived.Deep.LoopGhost
import Derived.Deep.QuietTactic
import Derived.BigQuiet
import Derived.WideLaws
import Derived.Deep.DeepCutAuto
import Derived.Deep.CutBlock
import Derived.Deep.RegionHeld3
import Derived.Laws.Rows
import Derived.Lib.AppendStr
import Derived.ArgAppend
import Derived.Laws.IdiomCopy
import Derived.OrdersHeld
import Derived.Laws.BitsLemmas
import Derived.RowKit
import Derived.Test.YtebfpnaofbpbjaaWWords
import Derived.Test.YtebfpnaofbpbjaaWLast
import Derived.Test.YtebfpnaofbpbjaaWTab
import Derived.Test.YtebfpnaofbpbjaaWFour
import Derived.Test.YtebfpnaofbpbjaaWQPut
import Derived.Test.YtebfpnaofbpbjaaWApart
import Derived.Test.YtebfpnaofbpbjaaWArr
import Derived.Test.YtebfpnaofbpbjaaWZeros
import Derived.Test.YtebfpnaofbpbjaaWFoot
import Derived.Test.YtebfpnaofbpbjaaWKept
import Derived.Test.YtebfpnaofbpbjaaWShare
import Derived.Test.YtebfpnaofbpbjaaWN
import Derived.Test.YtebfpnaofbpbjaaWFootNe
import Derived.Test.YtebfpnaofbpbjaaWAt
import Derived.Test.YtebfpnaofbpbjaaWEqStruct
import Derived.Test.YtebfpnaofbpbjaaWRepsOne
import Derived.Test.YtebfpnaofbpbjaaWInv
import Derived.Test.YtebfpnaofbpbjaaWInvWords
import Derived.Test.YtebfpnaofbpbjaaWGuard
import Derived.Test.YtebfpnaofbpbjaaWNEv
import Derived.Test.YtebfpnaofbpbjaaWMore
import Derived.Test.YtebfpnaofbpbjaaWMine
namespace Go.Proofs.Ytebfpnaofbpbjaa.PFnExactPutText
open Go.RowKit Go.Proofs.YtebfpnaofbpbjaaW.PrintWords Go.Proofs.YtebfpnaofbpbjaaW.PrintLast Go.Proofs.YtebfpnaofbpbjaaW.PrintMore
attribute [local go_sem] max2_int min2_int max_two min_two max_three min_three max_four min_four   -- for this text's walks alone
set_option linter.unusedVariables false
set_option linter.unusedSimpArgs false



def errW : Option Int → Value
  | none => .nilIface
  | some c => .iface 0 (.int .i64 c)
theorem errW_none : errW none = .nilIface := rfl
theorem errW_some (c : Int) : errW (some c) = .iface 0 (.int .i64 c) := rfl

theorem info5 : (Try.prog.info? 5).map (fun i => (i.zero, i.size, i.bytes)) = some (some (.int .u8 0), 1, 1) := by kernel_rfl
-- the values' own types

end Go.Proofs.Ytebfpnaofbpbjaa.PFnExactPutText
