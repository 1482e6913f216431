/-
  No cell of these rows narrows 'for every input' (looked for: loops, veiled, ifaces, maps, wideKeys, modest, calm, conditions, laid).
  DERIVED. THE GIVEN ROWS OF THIS SEAT. 12 by the template 'for every input the law returns true; each argument reads behind the call as it read before'; 0 by the template 'total and deterministic' (their statements: YtgmpdkefegofhaaTotals.lean).
  GIVEN WITH THE SEED: the statements are not yours to turn. If you find one false, say at which input.
  Laid BY PROGRAM, IN A SANDBOX (cutbox-rows.mjs): the forced cells as the released guide's own fill.sh prints them over the translation 46f8b480cafd27e4… (all of the seat's roots in one cut). By AI agents, Wed Nov 11 2026. No macro, syntax, notation, axiom, sorry.
-/
import Derived.Test.YtgmpdkefegofhaaChecked
import GoSem.Claim
import GoSem.ClaimJoined
import GoSem.ClaimMapViews
import Derived.JoinedTies
import Derived.KernelRfl
namespace Go.Proofs.Ytgmpdkefegofhaa
/- THE CELL 'sum', in the pinned program and in every row, IS THE sha256 OF THE DUMP (.gsa) THAT YtgmpdkefegofhaaProg.lean LOADS. Nothing in Lean hashes anything: it is a label: what it is worth is what the hold of that sum in a sandbox is worth. -/
noncomputable def Try.pinned : Pinned := { name := "ytgmpdkefegofhaa", sum := "46f8b480cafd27e4ab665c2eb30a83dc53c4be1caa34d0b919c552990f4d6daf", checked := Try.checked }
namespace Rows
def none {H : Type} : Left H := { results := [], args := [] }

/-- 'laws.FnExactDiskOk': WHATEVER THE INPUT: true; the input reads as it did. -/
def fnExactDiskOkSpec : ChangeSpec := { name := "fnExactDiskOk", fn := fun _ => fun
  | [d] => { results := [.lit (.bool true)], args := [d] }
  | _ => none }
def fnExactDiskOkRow : OpenClaim := { program := "ytgmpdkefegofhaa", sum := "46f8b480cafd27e4ab665c2eb30a83dc53c4be1caa34d0b919c552990f4d6daf", func := "loop.example/g00483/laws.FnExactDiskOk", spec := "fnExactDiskOk", unfollowed := true, recurses := true, apart := false }
def FnExactDiskOkSaid : Prop := fnExactDiskOkRow.holds Try.pinned (OpenSpec.ofChange fnExactDiskOkSpec)

/-- ITS FALSE NEIGHBOUR: 'it returns false'. Refute it at one input. -/
def fnExactDiskOkWrong : ChangeSpec := { name := "fnExactDiskOk", fn := fun _ => fun
  | [d] => { results := [.lit (.bool false)], args := [d] }
  | _ => none }
def FnExactDiskOkWrongFalsely : Prop := fnExactDiskOkRow.holds Try.pinned (OpenSpec.ofChange fnExactDiskOkWrong)

/-- 'laws.FnExactSectorRead': WHATEVER THE INPUT: true; the input reads as it did. -/
def fnExactSectorReadSpec : ChangeSpec := { name := "fnExactSectorRead", fn := fun _ => fun
  | [d1, d2] => { results := [.lit (.bool true)], args := [d1, d2] }
  | _ => none }
def fnExactSectorReadRow : OpenClaim := { program := "ytgmpdkefegofhaa", sum := "46f8b480cafd27e4ab665c2eb30a83dc53c4be1caa34d0b919c552990f4d6daf", func := "loop.example/g00483/laws.FnExactSectorRead", spec := "fnExactSectorRead", unfollowed := true, recurses := true, apart := false }
def FnExactSectorReadSaid : Prop := fnExactSectorReadRow.holds Try.pinned (OpenSpec.ofChange fnExactSectorReadSpec)

/-- ITS FALSE NEIGHBOUR: 'it returns false'. Refute it at one input. -/
def fnExactSectorReadWrong : ChangeSpec := { name := "fnExactSectorRead", fn := fun _ => fun
  | [d1, d2] => { results := [.lit (.bool false)], args := [d1, d2] }
  | _ => none }
def FnExactSectorReadWrongFalsely : Prop := fnExactSectorReadRow.holds Try.pinned (OpenSpec.ofChange fnExactSectorReadWrong)

/-- 'laws.FnExactHomeOf': WHATEVER THE INPUT: true; the input reads as it did. -/
def fnExactHomeOfSpec : ChangeSpec := { name := "fnExactHomeOf", fn := fun _ => fun
  | [d1, d2] => { results := [.lit (.bool true)], args := [d1, d2] }
  | _ => none }
def fnExactHomeOfRow : OpenClaim := { program := "ytgmpdkefegofhaa", sum := "46f8b480cafd27e4ab665c2eb30a83dc53c4be1caa34d0b919c552990f4d6daf", func := "loop.example/g00483/laws.FnExactHomeOf", spec := "fnExactHomeOf", unfollowed := true, recurses := true, apart := false }
def FnExactHomeOfSaid : Prop := fnExactHomeOfRow.holds Try.pinned (OpenSpec.ofChange fnExactHomeOfSpec)

/-- ITS FALSE NEIGHBOUR: 'it returns false'. Refute it at one input. -/
def fnExactHomeOfWrong : ChangeSpec := { name := "fnExactHomeOf", fn := fun _ => fun
  | [d1, d2] => { results := [.lit (.bool false)], args := [d1, d2] }
  | _ => none }
def FnExactHomeOfWrongFalsely : Prop := fnExactHomeOfRow.holds Try.pinned (OpenSpec.ofChange fnExactHomeOfWrong)

/-- 'laws.FnExactSectorWrite': WHATEVER THE INPUT: true; the input reads as it did. -/
def fnExactSectorWriteSpec : ChangeSpec := { name := "fnExactSectorWrite", fn := fun _ => fun
  | [d1, d2, d3] => { results := [.lit (.bool true)], args := [d1, d2, d3] }
  | _ => none }
def fnExactSectorWriteRow : OpenClaim := { program := "ytgmpdkefegofhaa", sum := "46f8b480cafd27e4ab665c2eb30a83dc53c4be1caa34d0b919c552990f4d6daf", func := "loop.example/g00483/laws.FnExactSectorWrite", spec := "fnExactSectorWrite", unfollowed := true, recurses := true, apart := false }
def FnExactSectorWriteSaid : Prop := fnExactSectorWriteRow.holds Try.pinned (OpenSpec.ofChange fnExactSectorWriteSpec)

/-- ITS FALSE NEIGHBOUR: 'it returns false'. Refute it at one input. -/
def fnExactSectorWriteWrong : ChangeSpec := { name := "fnExactSectorWrite", fn := fun _ => fun
  | [d1, d2, d3] => { results := [.lit (.bool false)], args := [d1, d2, d3] }
  | _ => none }
def FnExactSectorWriteWrongFalsely : Prop := fnExactSectorWriteRow.holds Try.pinned (OpenSpec.ofChange fnExactSectorWriteWrong)

/-- 'laws.FnExactFlush': WHATEVER THE INPUT: true; the input reads as it did. -/
def fnExactFlushSpec : ChangeSpec := { name := "fnExactFlush", fn := fun _ => fun
  | [d] => { results := [.lit (.bool true)], args := [d] }
  | _ => none }
def fnExactFlushRow : OpenClaim := { program := "ytgmpdkefegofhaa", sum := "46f8b480cafd27e4ab665c2eb30a83dc53c4be1caa34d0b919c552990f4d6daf", func := "loop.example/g00483/laws.FnExactFlush", spec := "fnExactFlush", unfollowed := true, recurses := true, apart := false }
def FnExactFlushSaid : Prop := fnExactFlushRow.holds Try.pinned (OpenSpec.ofChange fnExactFlushSpec)

/-- ITS FALSE NEIGHBOUR: 'it returns false'. Refute it at one input. -/
def fnExactFlushWrong : ChangeSpec := { name := "fnExactFlush", fn := fun _ => fun
  | [d] => { results := [.lit (.bool false)], args := [d] }
  | _ => none }
def FnExactFlushWrongFalsely : Prop := fnExactFlushRow.holds Try.pinned (OpenSpec.ofChange fnExactFlushWrong)

/-- 'laws.FnExactFall': WHATEVER THE INPUT: true; the input reads as it did. -/
def fnExactFallSpec : ChangeSpec := { name := "fnExactFall", fn := fun _ => fun
  | [d1, d2] => { results := [.lit (.bool true)], args := [d1, d2] }
  | _ => none }
def fnExactFallRow : OpenClaim := { program := "ytgmpdkefegofhaa", sum := "46f8b480cafd27e4ab665c2eb30a83dc53c4be1caa34d0b919c552990f4d6daf", func := "loop.example/g00483/laws.FnExactFall", spec := "fnExactFall", unfollowed := true, recurses := true, apart := false }
def FnExactFallSaid : Prop := fnExactFallRow.holds Try.pinned (OpenSpec.ofChange fnExactFallSpec)

/-- ITS FALSE NEIGHBOUR: 'it returns false'. Refute it at one input. -/
def fnExactFallWrong : ChangeSpec := { name := "fnExactFall", fn := fun _ => fun
  | [d1, d2] => { results := [.lit (.bool false)], args := [d1, d2] }
  | _ => none }
def FnExactFallWrongFalsely : Prop := fnExactFallRow.holds Try.pinned (OpenSpec.ofChange fnExactFallWrong)

/-- 'laws.FnExactEventsDo': WHATEVER THE INPUT: true; the input reads as it did. -/
def fnExactEventsDoSpec : ChangeSpec := { name := "fnExactEventsDo", fn := fun _ => fun
  | [d1, d2] => { results := [.lit (.bool true)], args := [d1, d2] }
  | _ => none }
def fnExactEventsDoRow : OpenClaim := { program := "ytgmpdkefegofhaa", sum := "46f8b480cafd27e4ab665c2eb30a83dc53c4be1caa34d0b919c552990f4d6daf", func := "loop.example/g00483/laws.FnExactEventsDo", spec := "fnExactEventsDo", unfollowed := true, recurses := true, apart := false }
def FnExactEventsDoSaid : Prop := fnExactEventsDoRow.holds Try.pinned (OpenSpec.ofChange fnExactEventsDoSpec)

/-- ITS FALSE NEIGHBOUR: 'it returns false'. Refute it at one input. -/
def fnExactEventsDoWrong : ChangeSpec := { name := "fnExactEventsDo", fn := fun _ => fun
  | [d1, d2] => { results := [.lit (.bool false)], args := [d1, d2] }
  | _ => none }
def FnExactEventsDoWrongFalsely : Prop := fnExactEventsDoRow.holds Try.pinned (OpenSpec.ofChange fnExactEventsDoWrong)

/-- 'laws.FnExactRecover': WHATEVER THE INPUT: true; the input reads as it did. -/
def fnExactRecoverSpec : ChangeSpec := { name := "fnExactRecover", fn := fun _ => fun
  | [d1, d2] => { results := [.lit (.bool true)], args := [d1, d2] }
  | _ => none }
def fnExactRecoverRow : OpenClaim := { program := "ytgmpdkefegofhaa", sum := "46f8b480cafd27e4ab665c2eb30a83dc53c4be1caa34d0b919c552990f4d6daf", func := "loop.example/g00483/laws.FnExactRecover", spec := "fnExactRecover", unfollowed := true, recurses := true, apart := false }
def FnExactRecoverSaid : Prop := fnExactRecoverRow.holds Try.pinned (OpenSpec.ofChange fnExactRecoverSpec)

/-- ITS FALSE NEIGHBOUR: 'it returns false'. Refute it at one input. -/
def fnExactRecoverWrong : ChangeSpec := { name := "fnExactRecover", fn := fun _ => fun
  | [d1, d2] => { results := [.lit (.bool false)], args := [d1, d2] }
  | _ => none }
def FnExactRecoverWrongFalsely : Prop := fnExactRecoverRow.holds Try.pinned (OpenSpec.ofChange fnExactRecoverWrong)

/-- 'laws.FnFallen': WHATEVER THE INPUT: true; the input reads as it did. -/
def fnFallenSpec : ChangeSpec := { name := "fnFallen", fn := fun _ => fun
  | [d] => { results := [.lit (.bool true)], args := [d] }
  | _ => none }
def fnFallenRow : OpenClaim := { program := "ytgmpdkefegofhaa", sum := "46f8b480cafd27e4ab665c2eb30a83dc53c4be1caa34d0b919c552990f4d6daf", func := "loop.example/g00483/laws.FnFallen", spec := "fnFallen", unfollowed := true, recurses := true, apart := false }
def FnFallenSaid : Prop := fnFallenRow.holds Try.pinned (OpenSpec.ofChange fnFallenSpec)

/-- ITS FALSE NEIGHBOUR: 'it returns false'. Refute it at one input. -/
def fnFallenWrong : ChangeSpec := { name := "fnFallen", fn := fun _ => fun
  | [d] => { results := [.lit (.bool false)], args := [d] }
  | _ => none }
def FnFallenWrongFalsely : Prop := fnFallenRow.holds Try.pinned (OpenSpec.ofChange fnFallenWrong)

/-- 'laws.FnFlushed': WHATEVER THE INPUT: true; the input reads as it did. -/
def fnFlushedSpec : ChangeSpec := { name := "fnFlushed", fn := fun _ => fun
  | [d] => { results := [.lit (.bool true)], args := [d] }
  | _ => none }
def fnFlushedRow : OpenClaim := { program := "ytgmpdkefegofhaa", sum := "46f8b480cafd27e4ab665c2eb30a83dc53c4be1caa34d0b919c552990f4d6daf", func := "loop.example/g00483/laws.FnFlushed", spec := "fnFlushed", unfollowed := true, recurses := true, apart := false }
def FnFlushedSaid : Prop := fnFlushedRow.holds Try.pinned (OpenSpec.ofChange fnFlushedSpec)

/-- ITS FALSE NEIGHBOUR: 'it returns false'. Refute it at one input. -/
def fnFlushedWrong : ChangeSpec := { name := "fnFlushed", fn := fun _ => fun
  | [d] => { results := [.lit (.bool false)], args := [d] }
  | _ => none }
def FnFlushedWrongFalsely : Prop := fnFlushedRow.holds Try.pinned (OpenSpec.ofChange fnFlushedWrong)

/-- 'laws.FnRecovered': WHATEVER THE INPUT: true; the input reads as it did. -/
def fnRecoveredSpec : ChangeSpec := { name := "fnRecovered", fn := fun _ => fun
  | [d] => { results := [.lit (.bool true)], args := [d] }
  | _ => none }
def fnRecoveredRow : OpenClaim := { program := "ytgmpdkefegofhaa", sum := "46f8b480cafd27e4ab665c2eb30a83dc53c4be1caa34d0b919c552990f4d6daf", func := "loop.example/g00483/laws.FnRecovered", spec := "fnRecovered", unfollowed := true, recurses := true, apart := false }
def FnRecoveredSaid : Prop := fnRecoveredRow.holds Try.pinned (OpenSpec.ofChange fnRecoveredSpec)

/-- ITS FALSE NEIGHBOUR: 'it returns false'. Refute it at one input. -/
def fnRecoveredWrong : ChangeSpec := { name := "fnRecovered", fn := fun _ => fun
  | [d] => { results := [.lit (.bool false)], args := [d] }
  | _ => none }
def FnRecoveredWrongFalsely : Prop := fnRecoveredRow.holds Try.pinned (OpenSpec.ofChange fnRecoveredWrong)

/-- 'laws.FnAtomic': WHATEVER THE INPUT: true; the input reads as it did. -/
def fnAtomicSpec : ChangeSpec := { name := "fnAtomic", fn := fun _ => fun
  | [d] => { results := [.lit (.bool true)], args := [d] }
  | _ => none }
def fnAtomicRow : OpenClaim := { program := "ytgmpdkefegofhaa", sum := "46f8b480cafd27e4ab665c2eb30a83dc53c4be1caa34d0b919c552990f4d6daf", func := "loop.example/g00483/laws.FnAtomic", spec := "fnAtomic", unfollowed := true, recurses := true, apart := false }
def FnAtomicSaid : Prop := fnAtomicRow.holds Try.pinned (OpenSpec.ofChange fnAtomicSpec)

/-- ITS FALSE NEIGHBOUR: 'it returns false'. Refute it at one input. -/
def fnAtomicWrong : ChangeSpec := { name := "fnAtomic", fn := fun _ => fun
  | [d] => { results := [.lit (.bool false)], args := [d] }
  | _ => none }
def FnAtomicWrongFalsely : Prop := fnAtomicRow.holds Try.pinned (OpenSpec.ofChange fnAtomicWrong)

/- THE SECOND FORM. 'bulk': how many values and letters a reading holds, each counted each time it is reached (what is shared counts as often as it is met; a slice's spare places count too). A statement '..UptoSaid' is the law's where the arguments, and the package variables that the reading takes, are together of bulk at most 1048576: NARROWER than '..Said'. Prove '..Said' where nothing that the law and all that it calls make is longer than what came in: it says more and counts as full. Else prove '..UptoSaid'. A law counts once. -/
mutual
def uptoBulk {H : Type} : DataW H → Nat
  | .lit (.string bytes) => bytes.length + 1
  | .lit _ => 1
  | .nil => 1
  | .ptr d => uptoBulk d + 1
  | .slice elems spare => uptoBulkAll elems + uptoBulkAll spare + 1
  | .agg parts => uptoBulkAll parts + 1
  | .iface _ d => uptoBulk d + 1
  | .map entries => uptoBulkEntries entries + 1
  | .held _ => 1
def uptoBulkAll {H : Type} : List (DataW H) → Nat
  | [] => 0
  | d :: r => uptoBulk d + uptoBulkAll r
def uptoBulkEntries {H : Type} : List (Lit × DataW H) → Nat
  | [] => 0
  | x :: r => uptoBulkEntry x + uptoBulkEntries r
def uptoBulkEntry {H : Type} : Lit × DataW H → Nat
  | (.string bytes, d) => bytes.length + uptoBulk d + 1
  | (_, d) => uptoBulk d + 1
 end
def uptoSmall : (H : Type) → List (DataW H) → Bool := fun _ ds => decide (uptoBulkAll ds ≤ 1048576)
def OpenSpec.upto (s : _root_.Go.ChangeSpec) : _root_.Go.OpenSpec := { _root_.Go.OpenSpec.ofChange s with cond := some uptoSmall }

/-- 'laws.FnExactDiskOk', WHERE WHAT IT READS IS OF BULK AT MOST 1048576: true; the input reads as it did. -/
def fnExactDiskOkUptoRow : OpenClaim := { program := "ytgmpdkefegofhaa", sum := "46f8b480cafd27e4ab665c2eb30a83dc53c4be1caa34d0b919c552990f4d6daf", func := "loop.example/g00483/laws.FnExactDiskOk", spec := "fnExactDiskOk", unfollowed := true, recurses := true, apart := false, narrowed := true }
def FnExactDiskOkUptoSaid : Prop := fnExactDiskOkUptoRow.holds Try.pinned (OpenSpec.upto fnExactDiskOkSpec)

/-- 'laws.FnExactSectorRead', WHERE WHAT IT READS IS OF BULK AT MOST 1048576: true; the input reads as it did. -/
def fnExactSectorReadUptoRow : OpenClaim := { program := "ytgmpdkefegofhaa", sum := "46f8b480cafd27e4ab665c2eb30a83dc53c4be1caa34d0b919c552990f4d6daf", func := "loop.example/g00483/laws.FnExactSectorRead", spec := "fnExactSectorRead", unfollowed := true, recurses := true, apart := false, narrowed := true }
def FnExactSectorReadUptoSaid : Prop := fnExactSectorReadUptoRow.holds Try.pinned (OpenSpec.upto fnExactSectorReadSpec)

/-- 'laws.FnExactHomeOf', WHERE WHAT IT READS IS OF BULK AT MOST 1048576: true; the input reads as it did. -/
def fnExactHomeOfUptoRow : OpenClaim := { program := "ytgmpdkefegofhaa", sum := "46f8b480cafd27e4ab665c2eb30a83dc53c4be1caa34d0b919c552990f4d6daf", func := "loop.example/g00483/laws.FnExactHomeOf", spec := "fnExactHomeOf", unfollowed := true, recurses := true, apart := false, narrowed := true }
def FnExactHomeOfUptoSaid : Prop := fnExactHomeOfUptoRow.holds Try.pinned (OpenSpec.upto fnExactHomeOfSpec)

/-- 'laws.FnExactSectorWrite', WHERE WHAT IT READS IS OF BULK AT MOST 1048576: true; the input reads as it did. -/
def fnExactSectorWriteUptoRow : OpenClaim := { program := "ytgmpdkefegofhaa", sum := "46f8b480cafd27e4ab665c2eb30a83dc53c4be1caa34d0b919c552990f4d6daf", func := "loop.example/g00483/laws.FnExactSectorWrite", spec := "fnExactSectorWrite", unfollowed := true, recurses := true, apart := false, narrowed := true }
def FnExactSectorWriteUptoSaid : Prop := fnExactSectorWriteUptoRow.holds Try.pinned (OpenSpec.upto fnExactSectorWriteSpec)

/-- 'laws.FnExactFlush', WHERE WHAT IT READS IS OF BULK AT MOST 1048576: true; the input reads as it did. -/
def fnExactFlushUptoRow : OpenClaim := { program := "ytgmpdkefegofhaa", sum := "46f8b480cafd27e4ab665c2eb30a83dc53c4be1caa34d0b919c552990f4d6daf", func := "loop.example/g00483/laws.FnExactFlush", spec := "fnExactFlush", unfollowed := true, recurses := true, apart := false, narrowed := true }
def FnExactFlushUptoSaid : Prop := fnExactFlushUptoRow.holds Try.pinned (OpenSpec.upto fnExactFlushSpec)

/-- 'laws.FnExactFall', WHERE WHAT IT READS IS OF BULK AT MOST 1048576: true; the input reads as it did. -/
def fnExactFallUptoRow : OpenClaim := { program := "ytgmpdkefegofhaa", sum := "46f8b480cafd27e4ab665c2eb30a83dc53c4be1caa34d0b919c552990f4d6daf", func := "loop.example/g00483/laws.FnExactFall", spec := "fnExactFall", unfollowed := true, recurses := true, apart := false, narrowed := true }
def FnExactFallUptoSaid : Prop := fnExactFallUptoRow.holds Try.pinned (OpenSpec.upto fnExactFallSpec)

/-- 'laws.FnExactEventsDo', WHERE WHAT IT READS IS OF BULK AT MOST 1048576: true; the input reads as it did. -/
def fnExactEventsDoUptoRow : OpenClaim := { program := "ytgmpdkefegofhaa", sum := "46f8b480cafd27e4ab665c2eb30a83dc53c4be1caa34d0b919c552990f4d6daf", func := "loop.example/g00483/laws.FnExactEventsDo", spec := "fnExactEventsDo", unfollowed := true, recurses := true, apart := false, narrowed := true }
def FnExactEventsDoUptoSaid : Prop := fnExactEventsDoUptoRow.holds Try.pinned (OpenSpec.upto fnExactEventsDoSpec)

/-- 'laws.FnExactRecover', WHERE WHAT IT READS IS OF BULK AT MOST 1048576: true; the input reads as it did. -/
def fnExactRecoverUptoRow : OpenClaim := { program := "ytgmpdkefegofhaa", sum := "46f8b480cafd27e4ab665c2eb30a83dc53c4be1caa34d0b919c552990f4d6daf", func := "loop.example/g00483/laws.FnExactRecover", spec := "fnExactRecover", unfollowed := true, recurses := true, apart := false, narrowed := true }
def FnExactRecoverUptoSaid : Prop := fnExactRecoverUptoRow.holds Try.pinned (OpenSpec.upto fnExactRecoverSpec)

/-- 'laws.FnFallen', WHERE WHAT IT READS IS OF BULK AT MOST 1048576: true; the input reads as it did. -/
def fnFallenUptoRow : OpenClaim := { program := "ytgmpdkefegofhaa", sum := "46f8b480cafd27e4ab665c2eb30a83dc53c4be1caa34d0b919c552990f4d6daf", func := "loop.example/g00483/laws.FnFallen", spec := "fnFallen", unfollowed := true, recurses := true, apart := false, narrowed := true }
def FnFallenUptoSaid : Prop := fnFallenUptoRow.holds Try.pinned (OpenSpec.upto fnFallenSpec)

/-- 'laws.FnFlushed', WHERE WHAT IT READS IS OF BULK AT MOST 1048576: true; the input reads as it did. -/
def fnFlushedUptoRow : OpenClaim := { program := "ytgmpdkefegofhaa", sum := "46f8b480cafd27e4ab665c2eb30a83dc53c4be1caa34d0b919c552990f4d6daf", func := "loop.example/g00483/laws.FnFlushed", spec := "fnFlushed", unfollowed := true, recurses := true, apart := false, narrowed := true }
def FnFlushedUptoSaid : Prop := fnFlushedUptoRow.holds Try.pinned (OpenSpec.upto fnFlushedSpec)

/-- 'laws.FnRecovered', WHERE WHAT IT READS IS OF BULK AT MOST 1048576: true; the input reads as it did. -/
def fnRecoveredUptoRow : OpenClaim := { program := "ytgmpdkefegofhaa", sum := "46f8b480cafd27e4ab665c2eb30a83dc53c4be1caa34d0b919c552990f4d6daf", func := "loop.example/g00483/laws.FnRecovered", spec := "fnRecovered", unfollowed := true, recurses := true, apart := false, narrowed := true }
def FnRecoveredUptoSaid : Prop := fnRecoveredUptoRow.holds Try.pinned (OpenSpec.upto fnRecoveredSpec)

/-- 'laws.FnAtomic', WHERE WHAT IT READS IS OF BULK AT MOST 1048576: true; the input reads as it did. -/
def fnAtomicUptoRow : OpenClaim := { program := "ytgmpdkefegofhaa", sum := "46f8b480cafd27e4ab665c2eb30a83dc53c4be1caa34d0b919c552990f4d6daf", func := "loop.example/g00483/laws.FnAtomic", spec := "fnAtomic", unfollowed := true, recurses := true, apart := false, narrowed := true }
def FnAtomicUptoSaid : Prop := fnAtomicUptoRow.holds Try.pinned (OpenSpec.upto fnAtomicSpec)

end Rows
end Go.Proofs.Ytgmpdkefegofhaa
