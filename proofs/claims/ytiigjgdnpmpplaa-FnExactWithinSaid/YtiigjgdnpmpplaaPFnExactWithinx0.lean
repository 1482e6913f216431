-- Written by xprint.py, a program of this session over the kit's print. Not trusted: Lean checks it.
import Derived.Test.YtiigjgdnpmpplaaProg
import Derived.Below
import Derived.Deep.Draws
import Derived.Deep.AppendLies
import Derived.Maps.AppendAt
import Derived.OwnWalk
import Derived.Laws.BytesArg
import Derived.Laws.MakeOwn
import Derived.Laws.OwnMore
import Derived.Deep.OwnRows
import Derived.Tactics
import Derived.Lib.ConvBytes
import Derived.Laws.Slices
import Derived.WalkKit
import Derived.KernelRfl
import Derived.RowKit3
import Derived.Deep.LoopGhost
import Derived.Deep.QuietTactic
import Derived.BigQuiet
import Derived.WideLaws
import Derived.Deep.DeepCutAuto
import Derived.Deep.CutBlock
import Derived.Deep.RegionHeld3
import Derived.Laws.Rows
import Derived.Lib.AppendStr
import Derived.ArgAppend
import Derived.Laws.IdiomCopy
import Derived.OrdersHeld
import Derived.Laws.BitsLemmas
import Derived.RowKit
import Derived.Test.YtiigjgdnpmpplaaWWords
import Derived.Test.YtiigjgdnpmpplaaWLast
import Derived.Test.YtiigjgdnpmpplaaWTab
import Derived.Test.YtiigjgdnpmpplaaWFour
import Derived.Test.YtiigjgdnpmpplaaWQPut
import Derived.Test.YtiigjgdnpmpplaaWApart
import Derived.Test.YtiigjgdnpmpplaaWArr
import Derived.Test.YtiigjgdnpmpplaaWZeros
import Derived.Test.YtiigjgdnpmpplaaWFoot
import Derived.Test.YtiigjgdnpmpplaaWKept
import Derived.Test.YtiigjgdnpmpplaaWShare
import Derived.Test.YtiigjgdnpmpplaaWN
import Derived.Test.YtiigjgdnpmpplaaWFootNe
import Derived.Test.YtiigjgdnpmpplaaWAt
import Derived.Test.YtiigjgdnpmpplaaWEqStruct
import Derived.Test.YtiigjgdnpmpplaaWRepsOne
import Derived.Test.YtiigjgdnpmpplaaWInv
import Derived.Test.YtiigjgdnpmpplaaWInvWords
import Derived.Test.YtiigjgdnpmpplaaWGuard
import Derived.Test.YtiigjgdnpmpplaaWNEv
import Derived.Test.YtiigjgdnpmpplaaWMore
namespace Go.Proofs.Ytiigjgdnpmpplaa.PFnExactWithin
open Go.RowKit Go.Proofs.YtiigjgdnpmpplaaW.PrintWords Go.Proofs.YtiigjgdnpmpplaaW.PrintLast Go.Proofs.YtiigjgdnpmpplaaW.PrintMore
attribute [local go_sem] max2_int min2_int max_two min_two max_three min_three max_four min_four   -- for this text's walks alone
set_option linter.unusedVariables false
set_option linter.unusedSimpArgs false



def errW : Option Int → Value
  | none => .nilIface
  | some c => .iface 0 (.int .i64 c)
theorem errW_none : errW none = .nilIface := rfl
theorem errW_some (c : Int) : errW (some c) = .iface 0 (.int .i64 c) := rfl

theorem info9 : (Try.prog.info? 9).map (fun i => (i.zero, i.size, i.bytes)) = some (some (.string ⟨#[]⟩), 1, 16) := by kernel_rfl
-- the values' own types

end Go.Proofs.Ytiigjgdnpmpplaa.PFnExactWithin
