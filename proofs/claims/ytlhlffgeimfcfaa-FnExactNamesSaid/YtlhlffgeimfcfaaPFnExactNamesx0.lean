-- Written by xprint.py, a program of this session over the kit's print. Not trusted: Lean checks it.
import Derived.Test.YtlhlffgeimfcfaaProg
import Derived.Below
import Derived.Deep.Draws
import Derived.Deep.AppendLies
import Derived.Maps.AppendAt
import Derived.OwnWalk
import Derived.Laws.BytesArg
import Derived.Laws.MakeOwn
import Derived.Laws.OwnMore
import Derived.Deep.OwnRows
import Derived.Tactics
import Derived.Lib.ConvBytes
import Derived.Laws.Slices
import Derived.WalkKit
import Derived.KernelRfl
import Derived.RowKit3
import Derived.Deep.LoopGhost
import Derived.Deep.QuietTactic
import Derived.BigQuiet
import Derived.WideLaws
import Derived.Deep.DeepCutAuto
import Derived.Deep.CutBlock
import Derived.Deep.RegionHeld3
import Derived.Laws.Rows
import Derived.Lib.AppendStr
import Derived.ArgAppend
import Derived.Laws.IdiomCopy
import Derived.OrdersHeld
import Derived.Laws.BitsLemmas
import Derived.RowKit
import Derived.Test.YtlhlffgeimfcfaaWWords
import Derived.Test.YtlhlffgeimfcfaaWLast
import Derived.Test.YtlhlffgeimfcfaaWTab
import Derived.Test.YtlhlffgeimfcfaaWFour
import Derived.Test.YtlhlffgeimfcfaaWQPut
import Derived.Test.YtlhlffgeimfcfaaWApart
import Derived.Test.YtlhlffgeimfcfaaWArr
import Derived.Test.YtlhlffgeimfcfaaWZeros
import Derived.Test.YtlhlffgeimfcfaaWFoot
import Derived.Test.YtlhlffgeimfcfaaWKept
import Derived.Test.YtlhlffgeimfcfaaWShare
import Derived.Test.YtlhlffgeimfcfaaWN
import Derived.Test.YtlhlffgeimfcfaaWFootNe
import Derived.Test.YtlhlffgeimfcfaaWAt
import Derived.Test.YtlhlffgeimfcfaaWEqStruct
import Derived.Test.YtlhlffgeimfcfaaWRepsOne
import Derived.Test.YtlhlffgeimfcfaaWInv
import Derived.Test.YtlhlffgeimfcfaaWInvWords
import Derived.Test.YtlhlffgeimfcfaaWGuard
import Derived.Test.YtlhlffgeimfcfaaWNEv
import Derived.Test.YtlhlffgeimfcfaaWMore
import Derived.Test.YtlhlffgeimfcfaaWMine
namespace Go.Proofs.Ytlhlffgeimfcfaa.PFnExactNames
open Go.RowKit Go.Proofs.YtlhlffgeimfcfaaW.PrintWords Go.Proofs.YtlhlffgeimfcfaaW.PrintLast Go.Proofs.YtlhlffgeimfcfaaW.PrintMore
attribute [local go_sem] max2_int min2_int max_two min_two max_three min_three max_four min_four   -- for this text's walks alone
set_option linter.unusedVariables false
set_option linter.unusedSimpArgs false



def errW : Option Int → Value
  | none => .nilIface
  | some c => .iface 0 (.int .i64 c)
theorem errW_none : errW none = .nilIface := rfl
theorem errW_some (c : Int) : errW (some c) = .iface 0 (.int .i64 c) := rfl

theorem info5 : (Try.prog.info? 5).map (fun i => (i.zero, i.size, i.bytes)) = some (some (.int .u8 0), 1, 1) := by kernel_rfl
theorem info9 : (Try.prog.info? 9).map (fun i => (i.zero, i.size, i.bytes)) = some (some (.string ⟨#[]⟩), 1, 16) := by kernel_rfl
-- the values' own types

end Go.Proofs.Ytlhlffgeimfcfaa.PFnExactNames
