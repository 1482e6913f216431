/-
  No cell of these rows narrows 'for every input' (looked for: loops, veiled, ifaces, maps, wideKeys, modest, calm, conditions, laid).
  DERIVED. THE GIVEN ROWS OF THIS SEAT. 3 by the template 'for every input the law returns true; each argument reads behind the call as it read before'; 0 by the template 'total and deterministic' (their statements: YtadfimhielcmmaaTotals.lean).
  GIVEN WITH THE SEED: the statements are not yours to turn. If you find one false, say at which input.
  Laid BY PROGRAM, IN A SANDBOX (cutbox-rows.mjs): the forced cells as the released guide's own fill.sh prints them over the translation ae084538a8712ae5… (all of the seat's roots in one cut). By AI agents, Wed Nov 11 2026. No macro, syntax, notation, axiom, sorry.
-/
import Derived.Test.YtadfimhielcmmaaChecked
import GoSem.Claim
import GoSem.ClaimJoined
import GoSem.ClaimMapViews
import Derived.JoinedTies
import Derived.KernelRfl
namespace Go.Proofs.Ytadfimhielcmmaa
/- THE CELL 'sum', in the pinned program and in every row, IS THE sha256 OF THE DUMP (.gsa) THAT YtadfimhielcmmaaProg.lean LOADS. Nothing in Lean hashes anything: it is a label: what it is worth is what the hold of that sum in a sandbox is worth. -/
noncomputable def Try.pinned : Pinned := { name := "ytadfimhielcmmaa", sum := "ae084538a8712ae51701d71f85596f93072de30441deac981a61e7620b9a5dcc", checked := Try.checked }
namespace Rows
def none {H : Type} : Left H := { results := [], args := [] }

/-- 'laws.FnExactFsNew': WHATEVER THE INPUT: true; the input reads as it did. -/
def fnExactFsNewSpec : ChangeSpec := { name := "fnExactFsNew", fn := fun _ => fun
  | [d1, d2] => { results := [.lit (.bool true)], args := [d1, d2] }
  | _ => none }
def fnExactFsNewRow : OpenClaim := { program := "ytadfimhielcmmaa", sum := "ae084538a8712ae51701d71f85596f93072de30441deac981a61e7620b9a5dcc", func := "loop.example/g00483/laws.FnExactFsNew", spec := "fnExactFsNew", apart := false }
def FnExactFsNewSaid : Prop := fnExactFsNewRow.holds Try.pinned (OpenSpec.ofChange fnExactFsNewSpec)

/-- ITS FALSE NEIGHBOUR: 'it returns false'. Refute it at one input. -/
def fnExactFsNewWrong : ChangeSpec := { name := "fnExactFsNew", fn := fun _ => fun
  | [d1, d2] => { results := [.lit (.bool false)], args := [d1, d2] }
  | _ => none }
def FnExactFsNewWrongFalsely : Prop := fnExactFsNewRow.holds Try.pinned (OpenSpec.ofChange fnExactFsNewWrong)

/-- 'laws.FnExactNodeOf': WHATEVER THE INPUT: true; the input reads as it did. -/
def fnExactNodeOfSpec : ChangeSpec := { name := "fnExactNodeOf", fn := fun _ => fun
  | [d] => { results := [.lit (.bool true)], args := [d] }
  | _ => none }
def fnExactNodeOfRow : OpenClaim := { program := "ytadfimhielcmmaa", sum := "ae084538a8712ae51701d71f85596f93072de30441deac981a61e7620b9a5dcc", func := "loop.example/g00483/laws.FnExactNodeOf", spec := "fnExactNodeOf", apart := false }
def FnExactNodeOfSaid : Prop := fnExactNodeOfRow.holds Try.pinned (OpenSpec.ofChange fnExactNodeOfSpec)

/-- ITS FALSE NEIGHBOUR: 'it returns false'. Refute it at one input. -/
def fnExactNodeOfWrong : ChangeSpec := { name := "fnExactNodeOf", fn := fun _ => fun
  | [d] => { results := [.lit (.bool false)], args := [d] }
  | _ => none }
def FnExactNodeOfWrongFalsely : Prop := fnExactNodeOfRow.holds Try.pinned (OpenSpec.ofChange fnExactNodeOfWrong)

/-- 'laws.FnNodes': WHATEVER THE INPUT: true; the input reads as it did. -/
def fnNodesSpec : ChangeSpec := { name := "fnNodes", fn := fun _ => fun
  | [d] => { results := [.lit (.bool true)], args := [d] }
  | _ => none }
def fnNodesRow : OpenClaim := { program := "ytadfimhielcmmaa", sum := "ae084538a8712ae51701d71f85596f93072de30441deac981a61e7620b9a5dcc", func := "loop.example/g00483/laws.FnNodes", spec := "fnNodes", apart := false }
def FnNodesSaid : Prop := fnNodesRow.holds Try.pinned (OpenSpec.ofChange fnNodesSpec)

/-- ITS FALSE NEIGHBOUR: 'it returns false'. Refute it at one input. -/
def fnNodesWrong : ChangeSpec := { name := "fnNodes", fn := fun _ => fun
  | [d] => { results := [.lit (.bool false)], args := [d] }
  | _ => none }
def FnNodesWrongFalsely : Prop := fnNodesRow.holds Try.pinned (OpenSpec.ofChange fnNodesWrong)

/- THE SECOND FORM. 'bulk': how many values and letters a reading holds, each counted each time it is reached (what is shared counts as often as it is met; a slice's spare places count too). A statement '..UptoSaid' is the law's where the arguments, and the package variables that the reading takes, are together of bulk at most 1048576: NARROWER than '..Said'. Prove '..Said' where nothing that the law and all that it calls make is longer than what came in: it says more and counts as full. Else prove '..UptoSaid'. A law counts once. -/
mutual
def uptoBulk {H : Type} : DataW H → Nat
  | .lit (.string bytes) => bytes.length + 1
  | .lit _ => 1
  | .nil => 1
  | .ptr d => uptoBulk d + 1
  | .slice elems spare => uptoBulkAll elems + uptoBulkAll spare + 1
  | .agg parts => uptoBulkAll parts + 1
  | .iface _ d => uptoBulk d + 1
  | .map entries => uptoBulkEntries entries + 1
  | .held _ => 1
def uptoBulkAll {H : Type} : List (DataW H) → Nat
  | [] => 0
  | d :: r => uptoBulk d + uptoBulkAll r
def uptoBulkEntries {H : Type} : List (Lit × DataW H) → Nat
  | [] => 0
  | x :: r => uptoBulkEntry x + uptoBulkEntries r
def uptoBulkEntry {H : Type} : Lit × DataW H → Nat
  | (.string bytes, d) => bytes.length + uptoBulk d + 1
  | (_, d) => uptoBulk d + 1
 end
def uptoSmall : (H : Type) → List (DataW H) → Bool := fun _ ds => decide (uptoBulkAll ds ≤ 1048576)
def OpenSpec.upto (s : _root_.Go.ChangeSpec) : _root_.Go.OpenSpec := { _root_.Go.OpenSpec.ofChange s with cond := some uptoSmall }

/-- 'laws.FnExactFsNew', WHERE WHAT IT READS IS OF BULK AT MOST 1048576: true; the input reads as it did. -/
def fnExactFsNewUptoRow : OpenClaim := { program := "ytadfimhielcmmaa", sum := "ae084538a8712ae51701d71f85596f93072de30441deac981a61e7620b9a5dcc", func := "loop.example/g00483/laws.FnExactFsNew", spec := "fnExactFsNew", apart := false, narrowed := true }
def FnExactFsNewUptoSaid : Prop := fnExactFsNewUptoRow.holds Try.pinned (OpenSpec.upto fnExactFsNewSpec)

/-- 'laws.FnExactNodeOf', WHERE WHAT IT READS IS OF BULK AT MOST 1048576: true; the input reads as it did. -/
def fnExactNodeOfUptoRow : OpenClaim := { program := "ytadfimhielcmmaa", sum := "ae084538a8712ae51701d71f85596f93072de30441deac981a61e7620b9a5dcc", func := "loop.example/g00483/laws.FnExactNodeOf", spec := "fnExactNodeOf", apart := false, narrowed := true }
def FnExactNodeOfUptoSaid : Prop := fnExactNodeOfUptoRow.holds Try.pinned (OpenSpec.upto fnExactNodeOfSpec)

/-- 'laws.FnNodes', WHERE WHAT IT READS IS OF BULK AT MOST 1048576: true; the input reads as it did. -/
def fnNodesUptoRow : OpenClaim := { program := "ytadfimhielcmmaa", sum := "ae084538a8712ae51701d71f85596f93072de30441deac981a61e7620b9a5dcc", func := "loop.example/g00483/laws.FnNodes", spec := "fnNodes", apart := false, narrowed := true }
def FnNodesUptoSaid : Prop := fnNodesUptoRow.holds Try.pinned (OpenSpec.upto fnNodesSpec)

end Rows
end Go.Proofs.Ytadfimhielcmmaa
