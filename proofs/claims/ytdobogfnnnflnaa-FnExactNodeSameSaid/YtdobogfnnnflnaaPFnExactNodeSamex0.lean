-- Written by xprint.py, a program of this session over the kit's print. Not trusted: Lean checks it.
import Derived.Test.YtdobogfnnnflnaaProg
import Derived.Below
import Derived.Deep.Draws
import Derived.Deep.AppendLies
import Derived.Maps.AppendAt
import Derived.OwnWalk
import Derived.Laws.BytesArg
import Derived.Laws.MakeOwn
import Derived.Laws.OwnMore
import Derived.Deep.OwnRows
import Derived.Tactics
import Derived.Lib.ConvBytes
import Derived.Laws.Slices
import Derived.WalkKit
import Derived.KernelRfl
import Derived.RowKit3
import Derived.Deep.LoopGhost
import Derived.Deep.QuietTactic
import Derived.BigQuiet
import Derived.WideLaws
import Derived.Deep.DeepCutAuto
import Derived.Deep.CutBlock
import Derived.Deep.RegionHeld3
import Derived.Laws.Rows
import Derived.Lib.AppendStr
import Derived.ArgAppend
import Derived.Laws.IdiomCopy
import Derived.OrdersHeld
import Derived.Laws.BitsLemmas
import Derived.RowKit
import Derived.Test.YtdobogfnnnflnaaWWords
import Derived.Test.YtdobogfnnnflnaaWLast
import Derived.Test.YtdobogfnnnflnaaWTab
import Derived.Test.YtdobogfnnnflnaaWFour
import Derived.Test.YtdobogfnnnflnaaWQPut
import Derived.Test.YtdobogfnnnflnaaWApart
import Derived.Test.YtdobogfnnnflnaaWArr
import Derived.Test.YtdobogfnnnflnaaWZeros
import Derived.Test.YtdobogfnnnflnaaWFoot
import Derived.Test.YtdobogfnnnflnaaWKept
import Derived.Test.YtdobogfnnnflnaaWShare
import Derived.Test.YtdobogfnnnflnaaWN
import Derived.Test.YtdobogfnnnflnaaWFootNe
import Derived.Test.YtdobogfnnnflnaaWAt
import Derived.Test.YtdobogfnnnflnaaWEqStruct
import Derived.Test.YtdobogfnnnflnaaWRepsOne
import Derived.Test.YtdobogfnnnflnaaWInv
import Derived.Test.YtdobogfnnnflnaaWInvWords
import Derived.Test.YtdobogfnnnflnaaWGuard
import Derived.Test.YtdobogfnnnflnaaWNEv
import Derived.Test.YtdobogfnnnflnaaWMore
import Derived.Test.YtdobogfnnnflnaaWMine
namespace Go.Proofs.Ytdobogfnnnflnaa.PFnExactNodeSame
open Go.RowKit Go.Proofs.YtdobogfnnnflnaaW.PrintWords Go.Proofs.YtdobogfnnnflnaaW.PrintLast Go.Proofs.YtdobogfnnnflnaaW.PrintMore
attribute [local go_sem] max2_int min2_int max_two min_two max_three min_three max_four min_four   -- for this text's walks alone
set_option linter.unusedVariables false
set_option linter.unusedSimpArgs false



def errW : Option Int → Value
  | none => .nilIface
  | some c => .iface 0 (.int .i64 c)
theorem errW_none : errW none = .nilIface := rfl
theorem errW_some (c : Int) : errW (some c) = .iface 0 (.int .i64 c) := rfl

theorem info3 : (Try.prog.info? 3).map (fun i => (i.zero, i.size, i.bytes)) = some (some (.int .i64 0), 1, 8) := by kernel_rfl
-- the values' own types

end Go.Proofs.Ytdobogfnnnflnaa.PFnExactNodeSame
