/- The words of the print that this law's row uses, and its opener. Written by prune.py. -/
import Derived.Test.YtgmpdkefegofhaaKFnAtomic
import Derived.Below
import Derived.Deep.Draws
import Derived.Deep.AppendLies
import Derived.Maps.AppendAt
import Derived.OwnWalk
import Derived.Laws.BytesArg
import Derived.Laws.MakeOwn
import Derived.Laws.OwnMore
import Derived.Deep.OwnRows
import Derived.Tactics
import Derived.Lib.ConvBytes
import Derived.Laws.Slices
import Derived.WalkKit
import Derived.KernelRfl
import Derived.RowKit3
import Derived.Deep.LoopGhost
import Derived.Deep.QuietTactic
import Derived.BigQuiet
import Derived.WideLaws
import Derived.Deep.DeepCutAuto
import Derived.Deep.CutBlock
import Derived.Deep.RegionHeld3
import Derived.Laws.Rows
import Derived.Lib.AppendStr
import Derived.ArgAppend
import Derived.Laws.IdiomCopy
import Derived.RowKit
import Derived.OrdersHeld
import Derived.Laws.BitsLemmas
import Derived.Laws.StructEq
set_option linter.unusedVariables false
set_option linter.unusedSimpArgs false
namespace Go.Proofs.YtgmpdkefegofhaaW.PrintWords
open Go.RowKit
namespace Kd
end Kd
namespace Kd
end Kd
namespace Kd
end Kd
namespace Kd
end Kd
namespace Kd
end Kd
namespace Kd
end Kd
namespace Kd
end Kd
namespace Kd
end Kd
namespace Kd
end Kd
namespace Kd
end Kd
namespace Kd
end Kd
namespace Kd
end Kd
namespace Kd
end Kd
namespace Kd
end Kd
namespace Kd
end Kd
section
variable {P : Program} {ops : Array Oper} {o : Oper} {a : Act} {Q : Exit → Act → World → Prop} {Kc : Act → World → Prop}
namespace Kd
variable {α : Type}
end Kd
end
namespace Kd
end Kd
end Go.Proofs.YtgmpdkefegofhaaW.PrintWords
namespace Go.Proofs.YtgmpdkefegofhaaW.PrintLast
end Go.Proofs.YtgmpdkefegofhaaW.PrintLast
namespace Go.Proofs.YtgmpdkefegofhaaW.PrintLast
open Go.Proofs.YtgmpdkefegofhaaW.PrintWords (Aside0)
end Go.Proofs.YtgmpdkefegofhaaW.PrintLast
namespace Go.Proofs.YtgmpdkefegofhaaW.PrintLast
end Go.Proofs.YtgmpdkefegofhaaW.PrintLast
namespace Go.Proofs.YtgmpdkefegofhaaW.PrintWords
open Go.RowKit
namespace Kd
end Kd
end Go.Proofs.YtgmpdkefegofhaaW.PrintWords
namespace Go.Proofs.YtgmpdkefegofhaaW.PrintWords
open Go.RowKit
namespace Kd
end Kd
end Go.Proofs.YtgmpdkefegofhaaW.PrintWords
namespace Go.Proofs.YtgmpdkefegofhaaW.PrintWords
open Go.RowKit
namespace Kd
end Kd
end Go.Proofs.YtgmpdkefegofhaaW.PrintWords
namespace Go.Proofs.YtgmpdkefegofhaaW.PrintWords
open Go.RowKit
namespace Kd
end Kd
end Go.Proofs.YtgmpdkefegofhaaW.PrintWords
namespace Go.Proofs.YtgmpdkefegofhaaW.PrintWords
open Go.RowKit
namespace Kd
end Kd
end Go.Proofs.YtgmpdkefegofhaaW.PrintWords
namespace Go.Proofs.YtgmpdkefegofhaaW.PrintWords
open Go.RowKit
namespace Kd
end Kd
end Go.Proofs.YtgmpdkefegofhaaW.PrintWords
namespace Go.Proofs.YtgmpdkefegofhaaW.PrintWords
open Go.RowKit
namespace Foot
variable {P Q : World → Prop} {W W1 : World} {ok ok' : Nat → Prop}
end Foot
namespace Kd
end Kd
end Go.Proofs.YtgmpdkefegofhaaW.PrintWords
namespace Go.Proofs.YtgmpdkefegofhaaW.PrintWords
open Go.RowKit
namespace Kd
end Kd
end Go.Proofs.YtgmpdkefegofhaaW.PrintWords
namespace Go.Proofs.YtgmpdkefegofhaaW.PrintWords
open Go.RowKit
namespace Kd
end Kd
end Go.Proofs.YtgmpdkefegofhaaW.PrintWords
namespace Go.Proofs.YtgmpdkefegofhaaW.PrintWords
open Go.RowKit
namespace Kd
end Kd
end Go.Proofs.YtgmpdkefegofhaaW.PrintWords
namespace Go.Proofs.YtgmpdkefegofhaaW.PrintWords
open Go.RowKit
end Go.Proofs.YtgmpdkefegofhaaW.PrintWords
namespace Go.Proofs.YtgmpdkefegofhaaW.PrintWords
end Go.Proofs.YtgmpdkefegofhaaW.PrintWords
namespace Go.Proofs.YtgmpdkefegofhaaW.PrintLast
end Go.Proofs.YtgmpdkefegofhaaW.PrintLast
namespace Go.Proofs.YtgmpdkefegofhaaW.PrintWords
open Go.RowKit
end Go.Proofs.YtgmpdkefegofhaaW.PrintWords
namespace Go.Proofs.YtgmpdkefegofhaaW.PrintLast
end Go.Proofs.YtgmpdkefegofhaaW.PrintLast
namespace Go.Proofs.YtgmpdkefegofhaaW.PrintWords
open Go.RowKit
end Go.Proofs.YtgmpdkefegofhaaW.PrintWords
namespace Go.Proofs.YtgmpdkefegofhaaW.PrintWords
open Go.RowKit
namespace Kd
end Kd
end Go.Proofs.YtgmpdkefegofhaaW.PrintWords
namespace Go.Proofs.YtgmpdkefegofhaaW.PrintMore
open Go.RowKit Go.Proofs.YtgmpdkefegofhaaW.PrintWords
namespace Kd
open Go.Proofs.YtgmpdkefegofhaaW.PrintWords.Kd
end Kd
namespace Kd
open Go.Proofs.YtgmpdkefegofhaaW.PrintWords.Kd
end Kd
end Go.Proofs.YtgmpdkefegofhaaW.PrintMore
namespace Go.Proofs.YtgmpdkefegofhaaW.PrintWords
open Go.RowKit
namespace Kd
end Kd
end Go.Proofs.YtgmpdkefegofhaaW.PrintWords
namespace Go.Proofs.YtgmpdkefegofhaaW.PrintWords
open Go.RowKit
namespace Kd
end Kd
end Go.Proofs.YtgmpdkefegofhaaW.PrintWords
namespace Go.Proofs.YtgmpdkefegofhaaW.PrintMore
open Go.RowKit Go.Proofs.YtgmpdkefegofhaaW.PrintWords Go.Proofs.YtgmpdkefegofhaaW.PrintLast
end Go.Proofs.YtgmpdkefegofhaaW.PrintMore
namespace Go.Proofs.YtgmpdkefegofhaaW.PrintWords
end Go.Proofs.YtgmpdkefegofhaaW.PrintWords
namespace Go.Proofs.YtgmpdkefegofhaaW.PrintMore
open Go.Proofs.YtgmpdkefegofhaaW.PrintWords
end Go.Proofs.YtgmpdkefegofhaaW.PrintMore
namespace Go.Proofs.YtgmpdkefegofhaaW.PrintWords
end Go.Proofs.YtgmpdkefegofhaaW.PrintWords
namespace Go.Proofs.YtgmpdkefegofhaaW.PrintMore
open Go.RowKit Go.Proofs.YtgmpdkefegofhaaW.PrintWords Go.Proofs.YtgmpdkefegofhaaW.PrintLast
set_option linter.unusedVariables false
section
variable {P : Program} {md : Region.Mode} {ops : Array Oper} {Q : Exit → Act → World → Prop} {S : World → Prop} {ds : List Nat}
theorem pU (i n : Nat) {oi : Oper} {fuel : Nat} {l : Array Bool} {a : Act} {w : World} (l' : Array Bool) {T : Bool × List (List Nat × List Nat)} {a' : Act} (h : wpAnyLast P md ops Q S ds fuel l' a' w)
    (hi : ops[i]? = some oi := by exact rfl) (hN : oi.dst = some n := by exact rfl) (hT : rtab md ops = T := by exact HT_.out) (hc : anyT T l.toList l'.toList i = true := by kernel_rfl) (hQ : ∀ c a w, Q (.panic c) (a.put oi.dst undef) w → Q (.panic c) a w := by exact (fun _ _ _ h => h))
    (hy : Yields P ops oi undef a := by exact Or.inr ⟨by rfl, rfl⟩) (ha : a.put (some n) undef = a' := by (simp only [Act.put, List.setIfInBounds_toArray, List.set_cons_zero, List.set_cons_succ, i64_w, i32_w]; rfl)) : wpAnyLast P md ops Q S ds (fuel + 1) l a w :=
  pure_ l' hi hN (any_of hT hc) hQ hy ha h
end
end Go.Proofs.YtgmpdkefegofhaaW.PrintMore
