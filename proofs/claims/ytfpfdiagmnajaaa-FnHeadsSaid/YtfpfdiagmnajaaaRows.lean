/-
  No cell of these rows narrows 'for every input' (looked for: loops, veiled, ifaces, maps, wideKeys, modest, calm, conditions, laid).
  DERIVED. THE GIVEN ROWS OF THIS SEAT. 12 by the template 'for every input the law returns true; each argument reads behind the call as it read before'; 0 by the template 'total and deterministic' (their statements: YtfpfdiagmnajaaaTotals.lean).
  GIVEN WITH THE SEED: the statements are not yours to turn. If you find one false, say at which input.
  Laid BY PROGRAM, IN A SANDBOX (cutbox-rows.mjs): the forced cells as the released guide's own fill.sh prints them over the translation 0a12c3c50e2e6511… (all of the seat's roots in one cut). By AI agents, Wed Nov 11 2026. No macro, syntax, notation, axiom, sorry.
-/
import Derived.Test.YtfpfdiagmnajaaaChecked
import GoSem.Claim
import GoSem.ClaimJoined
import GoSem.ClaimMapViews
import Derived.JoinedTies
import Derived.KernelRfl
namespace Go.Proofs.Ytfpfdiagmnajaaa
/- THE CELL 'sum', in the pinned program and in every row, IS THE sha256 OF THE DUMP (.gsa) THAT YtfpfdiagmnajaaaProg.lean LOADS. Nothing in Lean hashes anything: it is a label: what it is worth is what the hold of that sum in a sandbox is worth. -/
noncomputable def Try.pinned : Pinned := { name := "ytfpfdiagmnajaaa", sum := "0a12c3c50e2e65112a003d544a28b11f7b150e9235f2f1c753ce2270592867c8", checked := Try.checked }
namespace Rows
def none {H : Type} : Left H := { results := [], args := [] }

/-- 'laws.FnExactFsSame': WHATEVER THE INPUT: true; the input reads as it did. -/
def fnExactFsSameSpec : ChangeSpec := { name := "fnExactFsSame", fn := fun _ => fun
  | [d1, d2] => { results := [.lit (.bool true)], args := [d1, d2] }
  | _ => none }
def fnExactFsSameRow : OpenClaim := { program := "ytfpfdiagmnajaaa", sum := "0a12c3c50e2e65112a003d544a28b11f7b150e9235f2f1c753ce2270592867c8", func := "loop.example/g00483/laws.FnExactFsSame", spec := "fnExactFsSame", unfollowed := true, recurses := true, apart := false }
def FnExactFsSameSaid : Prop := fnExactFsSameRow.holds Try.pinned (OpenSpec.ofChange fnExactFsSameSpec)

/-- ITS FALSE NEIGHBOUR: 'it returns false'. Refute it at one input. -/
def fnExactFsSameWrong : ChangeSpec := { name := "fnExactFsSame", fn := fun _ => fun
  | [d1, d2] => { results := [.lit (.bool false)], args := [d1, d2] }
  | _ => none }
def FnExactFsSameWrongFalsely : Prop := fnExactFsSameRow.holds Try.pinned (OpenSpec.ofChange fnExactFsSameWrong)

/-- 'laws.FnFallen': WHATEVER THE INPUT: true; the input reads as it did. -/
def fnFallenSpec : ChangeSpec := { name := "fnFallen", fn := fun _ => fun
  | [d] => { results := [.lit (.bool true)], args := [d] }
  | _ => none }
def fnFallenRow : OpenClaim := { program := "ytfpfdiagmnajaaa", sum := "0a12c3c50e2e65112a003d544a28b11f7b150e9235f2f1c753ce2270592867c8", func := "loop.example/g00483/laws.FnFallen", spec := "fnFallen", unfollowed := true, recurses := true, apart := false }
def FnFallenSaid : Prop := fnFallenRow.holds Try.pinned (OpenSpec.ofChange fnFallenSpec)

/-- ITS FALSE NEIGHBOUR: 'it returns false'. Refute it at one input. -/
def fnFallenWrong : ChangeSpec := { name := "fnFallen", fn := fun _ => fun
  | [d] => { results := [.lit (.bool false)], args := [d] }
  | _ => none }
def FnFallenWrongFalsely : Prop := fnFallenRow.holds Try.pinned (OpenSpec.ofChange fnFallenWrong)

/-- 'laws.FnExactNormal': WHATEVER THE INPUT: true; the input reads as it did. -/
def fnExactNormalSpec : ChangeSpec := { name := "fnExactNormal", fn := fun _ => fun
  | [d] => { results := [.lit (.bool true)], args := [d] }
  | _ => none }
def fnExactNormalRow : OpenClaim := { program := "ytfpfdiagmnajaaa", sum := "0a12c3c50e2e65112a003d544a28b11f7b150e9235f2f1c753ce2270592867c8", func := "loop.example/g00483/laws.FnExactNormal", spec := "fnExactNormal", inPlace := ["internal/abi.NoEscape", "internal/bytealg.MakeNoZero"], unfollowed := true, recurses := true, apart := false }
def FnExactNormalSaid : Prop := fnExactNormalRow.holds Try.pinned (OpenSpec.ofChange fnExactNormalSpec)

/-- ITS FALSE NEIGHBOUR: 'it returns false'. Refute it at one input. -/
def fnExactNormalWrong : ChangeSpec := { name := "fnExactNormal", fn := fun _ => fun
  | [d] => { results := [.lit (.bool false)], args := [d] }
  | _ => none }
def FnExactNormalWrongFalsely : Prop := fnExactNormalRow.holds Try.pinned (OpenSpec.ofChange fnExactNormalWrong)

/-- 'laws.FnHeads': WHATEVER THE INPUT: true; the input reads as it did. -/
def fnHeadsSpec : ChangeSpec := { name := "fnHeads", fn := fun _ => fun
  | [d] => { results := [.lit (.bool true)], args := [d] }
  | _ => none }
def fnHeadsRow : OpenClaim := { program := "ytfpfdiagmnajaaa", sum := "0a12c3c50e2e65112a003d544a28b11f7b150e9235f2f1c753ce2270592867c8", func := "loop.example/g00483/laws.FnHeads", spec := "fnHeads", apart := false }
def FnHeadsSaid : Prop := fnHeadsRow.holds Try.pinned (OpenSpec.ofChange fnHeadsSpec)

/-- ITS FALSE NEIGHBOUR: 'it returns false'. Refute it at one input. -/
def fnHeadsWrong : ChangeSpec := { name := "fnHeads", fn := fun _ => fun
  | [d] => { results := [.lit (.bool false)], args := [d] }
  | _ => none }
def FnHeadsWrongFalsely : Prop := fnHeadsRow.holds Try.pinned (OpenSpec.ofChange fnHeadsWrong)

/-- 'laws.FnFlushed': WHATEVER THE INPUT: true; the input reads as it did. -/
def fnFlushedSpec : ChangeSpec := { name := "fnFlushed", fn := fun _ => fun
  | [d] => { results := [.lit (.bool true)], args := [d] }
  | _ => none }
def fnFlushedRow : OpenClaim := { program := "ytfpfdiagmnajaaa", sum := "0a12c3c50e2e65112a003d544a28b11f7b150e9235f2f1c753ce2270592867c8", func := "loop.example/g00483/laws.FnFlushed", spec := "fnFlushed", unfollowed := true, recurses := true, apart := false }
def FnFlushedSaid : Prop := fnFlushedRow.holds Try.pinned (OpenSpec.ofChange fnFlushedSpec)

/-- ITS FALSE NEIGHBOUR: 'it returns false'. Refute it at one input. -/
def fnFlushedWrong : ChangeSpec := { name := "fnFlushed", fn := fun _ => fun
  | [d] => { results := [.lit (.bool false)], args := [d] }
  | _ => none }
def FnFlushedWrongFalsely : Prop := fnFlushedRow.holds Try.pinned (OpenSpec.ofChange fnFlushedWrong)

/-- 'laws.FnExactNodeOf': WHATEVER THE INPUT: true; the input reads as it did. -/
def fnExactNodeOfSpec : ChangeSpec := { name := "fnExactNodeOf", fn := fun _ => fun
  | [d] => { results := [.lit (.bool true)], args := [d] }
  | _ => none }
def fnExactNodeOfRow : OpenClaim := { program := "ytfpfdiagmnajaaa", sum := "0a12c3c50e2e65112a003d544a28b11f7b150e9235f2f1c753ce2270592867c8", func := "loop.example/g00483/laws.FnExactNodeOf", spec := "fnExactNodeOf", apart := false }
def FnExactNodeOfSaid : Prop := fnExactNodeOfRow.holds Try.pinned (OpenSpec.ofChange fnExactNodeOfSpec)

/-- ITS FALSE NEIGHBOUR: 'it returns false'. Refute it at one input. -/
def fnExactNodeOfWrong : ChangeSpec := { name := "fnExactNodeOf", fn := fun _ => fun
  | [d] => { results := [.lit (.bool false)], args := [d] }
  | _ => none }
def FnExactNodeOfWrongFalsely : Prop := fnExactNodeOfRow.holds Try.pinned (OpenSpec.ofChange fnExactNodeOfWrong)

/-- 'laws.FnExactHomeOf': WHATEVER THE INPUT: true; the input reads as it did. -/
def fnExactHomeOfSpec : ChangeSpec := { name := "fnExactHomeOf", fn := fun _ => fun
  | [d1, d2] => { results := [.lit (.bool true)], args := [d1, d2] }
  | _ => none }
def fnExactHomeOfRow : OpenClaim := { program := "ytfpfdiagmnajaaa", sum := "0a12c3c50e2e65112a003d544a28b11f7b150e9235f2f1c753ce2270592867c8", func := "loop.example/g00483/laws.FnExactHomeOf", spec := "fnExactHomeOf", unfollowed := true, recurses := true, apart := false }
def FnExactHomeOfSaid : Prop := fnExactHomeOfRow.holds Try.pinned (OpenSpec.ofChange fnExactHomeOfSpec)

/-- ITS FALSE NEIGHBOUR: 'it returns false'. Refute it at one input. -/
def fnExactHomeOfWrong : ChangeSpec := { name := "fnExactHomeOf", fn := fun _ => fun
  | [d1, d2] => { results := [.lit (.bool false)], args := [d1, d2] }
  | _ => none }
def FnExactHomeOfWrongFalsely : Prop := fnExactHomeOfRow.holds Try.pinned (OpenSpec.ofChange fnExactHomeOfWrong)

/-- 'laws.FnExactSectorWrite': WHATEVER THE INPUT: true; the input reads as it did. -/
def fnExactSectorWriteSpec : ChangeSpec := { name := "fnExactSectorWrite", fn := fun _ => fun
  | [d1, d2, d3] => { results := [.lit (.bool true)], args := [d1, d2, d3] }
  | _ => none }
def fnExactSectorWriteRow : OpenClaim := { program := "ytfpfdiagmnajaaa", sum := "0a12c3c50e2e65112a003d544a28b11f7b150e9235f2f1c753ce2270592867c8", func := "loop.example/g00483/laws.FnExactSectorWrite", spec := "fnExactSectorWrite", unfollowed := true, recurses := true, apart := false }
def FnExactSectorWriteSaid : Prop := fnExactSectorWriteRow.holds Try.pinned (OpenSpec.ofChange fnExactSectorWriteSpec)

/-- ITS FALSE NEIGHBOUR: 'it returns false'. Refute it at one input. -/
def fnExactSectorWriteWrong : ChangeSpec := { name := "fnExactSectorWrite", fn := fun _ => fun
  | [d1, d2, d3] => { results := [.lit (.bool false)], args := [d1, d2, d3] }
  | _ => none }
def FnExactSectorWriteWrongFalsely : Prop := fnExactSectorWriteRow.holds Try.pinned (OpenSpec.ofChange fnExactSectorWriteWrong)

/-- 'laws.FnExactFlush': WHATEVER THE INPUT: true; the input reads as it did. -/
def fnExactFlushSpec : ChangeSpec := { name := "fnExactFlush", fn := fun _ => fun
  | [d] => { results := [.lit (.bool true)], args := [d] }
  | _ => none }
def fnExactFlushRow : OpenClaim := { program := "ytfpfdiagmnajaaa", sum := "0a12c3c50e2e65112a003d544a28b11f7b150e9235f2f1c753ce2270592867c8", func := "loop.example/g00483/laws.FnExactFlush", spec := "fnExactFlush", unfollowed := true, recurses := true, apart := false }
def FnExactFlushSaid : Prop := fnExactFlushRow.holds Try.pinned (OpenSpec.ofChange fnExactFlushSpec)

/-- ITS FALSE NEIGHBOUR: 'it returns false'. Refute it at one input. -/
def fnExactFlushWrong : ChangeSpec := { name := "fnExactFlush", fn := fun _ => fun
  | [d] => { results := [.lit (.bool false)], args := [d] }
  | _ => none }
def FnExactFlushWrongFalsely : Prop := fnExactFlushRow.holds Try.pinned (OpenSpec.ofChange fnExactFlushWrong)

/-- 'laws.FnWithin': WHATEVER THE INPUT: true; the input reads as it did. -/
def fnWithinSpec : ChangeSpec := { name := "fnWithin", fn := fun _ => fun
  | [d] => { results := [.lit (.bool true)], args := [d] }
  | _ => none }
def fnWithinRow : OpenClaim := { program := "ytfpfdiagmnajaaa", sum := "0a12c3c50e2e65112a003d544a28b11f7b150e9235f2f1c753ce2270592867c8", func := "loop.example/g00483/laws.FnWithin", spec := "fnWithin", inPlace := ["internal/abi.NoEscape", "internal/bytealg.MakeNoZero"], unfollowed := true, recurses := true, apart := false }
def FnWithinSaid : Prop := fnWithinRow.holds Try.pinned (OpenSpec.ofChange fnWithinSpec)

/-- ITS FALSE NEIGHBOUR: 'it returns false'. Refute it at one input. -/
def fnWithinWrong : ChangeSpec := { name := "fnWithin", fn := fun _ => fun
  | [d] => { results := [.lit (.bool false)], args := [d] }
  | _ => none }
def FnWithinWrongFalsely : Prop := fnWithinRow.holds Try.pinned (OpenSpec.ofChange fnWithinWrong)

/-- 'laws.FnExactFall': WHATEVER THE INPUT: true; the input reads as it did. -/
def fnExactFallSpec : ChangeSpec := { name := "fnExactFall", fn := fun _ => fun
  | [d1, d2] => { results := [.lit (.bool true)], args := [d1, d2] }
  | _ => none }
def fnExactFallRow : OpenClaim := { program := "ytfpfdiagmnajaaa", sum := "0a12c3c50e2e65112a003d544a28b11f7b150e9235f2f1c753ce2270592867c8", func := "loop.example/g00483/laws.FnExactFall", spec := "fnExactFall", unfollowed := true, recurses := true, apart := false }
def FnExactFallSaid : Prop := fnExactFallRow.holds Try.pinned (OpenSpec.ofChange fnExactFallSpec)

/-- ITS FALSE NEIGHBOUR: 'it returns false'. Refute it at one input. -/
def fnExactFallWrong : ChangeSpec := { name := "fnExactFall", fn := fun _ => fun
  | [d1, d2] => { results := [.lit (.bool false)], args := [d1, d2] }
  | _ => none }
def FnExactFallWrongFalsely : Prop := fnExactFallRow.holds Try.pinned (OpenSpec.ofChange fnExactFallWrong)

/-- 'laws.FnExactCommit': WHATEVER THE INPUT: true; the input reads as it did. -/
def fnExactCommitSpec : ChangeSpec := { name := "fnExactCommit", fn := fun _ => fun
  | [d1, d2] => { results := [.lit (.bool true)], args := [d1, d2] }
  | _ => none }
def fnExactCommitRow : OpenClaim := { program := "ytfpfdiagmnajaaa", sum := "0a12c3c50e2e65112a003d544a28b11f7b150e9235f2f1c753ce2270592867c8", func := "loop.example/g00483/laws.FnExactCommit", spec := "fnExactCommit", apart := false }
def FnExactCommitSaid : Prop := fnExactCommitRow.holds Try.pinned (OpenSpec.ofChange fnExactCommitSpec)

/-- ITS FALSE NEIGHBOUR: 'it returns false'. Refute it at one input. -/
def fnExactCommitWrong : ChangeSpec := { name := "fnExactCommit", fn := fun _ => fun
  | [d1, d2] => { results := [.lit (.bool false)], args := [d1, d2] }
  | _ => none }
def FnExactCommitWrongFalsely : Prop := fnExactCommitRow.holds Try.pinned (OpenSpec.ofChange fnExactCommitWrong)

/- THE SECOND FORM. 'bulk': how many values and letters a reading holds, each counted each time it is reached (what is shared counts as often as it is met; a slice's spare places count too). A statement '..UptoSaid' is the law's where the arguments, and the package variables that the reading takes, are together of bulk at most 1048576: NARROWER than '..Said'. Prove '..Said' where nothing that the law and all that it calls make is longer than what came in: it says more and counts as full. Else prove '..UptoSaid'. A law counts once. -/
mutual
def uptoBulk {H : Type} : DataW H → Nat
  | .lit (.string bytes) => bytes.length + 1
  | .lit _ => 1
  | .nil => 1
  | .ptr d => uptoBulk d + 1
  | .slice elems spare => uptoBulkAll elems + uptoBulkAll spare + 1
  | .agg parts => uptoBulkAll parts + 1
  | .iface _ d => uptoBulk d + 1
  | .map entries => uptoBulkEntries entries + 1
  | .held _ => 1
def uptoBulkAll {H : Type} : List (DataW H) → Nat
  | [] => 0
  | d :: r => uptoBulk d + uptoBulkAll r
def uptoBulkEntries {H : Type} : List (Lit × DataW H) → Nat
  | [] => 0
  | x :: r => uptoBulkEntry x + uptoBulkEntries r
def uptoBulkEntry {H : Type} : Lit × DataW H → Nat
  | (.string bytes, d) => bytes.length + uptoBulk d + 1
  | (_, d) => uptoBulk d + 1
 end
def uptoSmall : (H : Type) → List (DataW H) → Bool := fun _ ds => decide (uptoBulkAll ds ≤ 1048576)
def OpenSpec.upto (s : _root_.Go.ChangeSpec) : _root_.Go.OpenSpec := { _root_.Go.OpenSpec.ofChange s with cond := some uptoSmall }

/-- 'laws.FnExactFsSame', WHERE WHAT IT READS IS OF BULK AT MOST 1048576: true; the input reads as it did. -/
def fnExactFsSameUptoRow : OpenClaim := { program := "ytfpfdiagmnajaaa", sum := "0a12c3c50e2e65112a003d544a28b11f7b150e9235f2f1c753ce2270592867c8", func := "loop.example/g00483/laws.FnExactFsSame", spec := "fnExactFsSame", unfollowed := true, recurses := true, apart := false, narrowed := true }
def FnExactFsSameUptoSaid : Prop := fnExactFsSameUptoRow.holds Try.pinned (OpenSpec.upto fnExactFsSameSpec)

/-- 'laws.FnFallen', WHERE WHAT IT READS IS OF BULK AT MOST 1048576: true; the input reads as it did. -/
def fnFallenUptoRow : OpenClaim := { program := "ytfpfdiagmnajaaa", sum := "0a12c3c50e2e65112a003d544a28b11f7b150e9235f2f1c753ce2270592867c8", func := "loop.example/g00483/laws.FnFallen", spec := "fnFallen", unfollowed := true, recurses := true, apart := false, narrowed := true }
def FnFallenUptoSaid : Prop := fnFallenUptoRow.holds Try.pinned (OpenSpec.upto fnFallenSpec)

/-- 'laws.FnExactNormal', WHERE WHAT IT READS IS OF BULK AT MOST 1048576: true; the input reads as it did. -/
def fnExactNormalUptoRow : OpenClaim := { program := "ytfpfdiagmnajaaa", sum := "0a12c3c50e2e65112a003d544a28b11f7b150e9235f2f1c753ce2270592867c8", func := "loop.example/g00483/laws.FnExactNormal", spec := "fnExactNormal", inPlace := ["internal/abi.NoEscape", "internal/bytealg.MakeNoZero"], unfollowed := true, recurses := true, apart := false, narrowed := true }
def FnExactNormalUptoSaid : Prop := fnExactNormalUptoRow.holds Try.pinned (OpenSpec.upto fnExactNormalSpec)

/-- 'laws.FnHeads', WHERE WHAT IT READS IS OF BULK AT MOST 1048576: true; the input reads as it did. -/
def fnHeadsUptoRow : OpenClaim := { program := "ytfpfdiagmnajaaa", sum := "0a12c3c50e2e65112a003d544a28b11f7b150e9235f2f1c753ce2270592867c8", func := "loop.example/g00483/laws.FnHeads", spec := "fnHeads", apart := false, narrowed := true }
def FnHeadsUptoSaid : Prop := fnHeadsUptoRow.holds Try.pinned (OpenSpec.upto fnHeadsSpec)

/-- 'laws.FnFlushed', WHERE WHAT IT READS IS OF BULK AT MOST 1048576: true; the input reads as it did. -/
def fnFlushedUptoRow : OpenClaim := { program := "ytfpfdiagmnajaaa", sum := "0a12c3c50e2e65112a003d544a28b11f7b150e9235f2f1c753ce2270592867c8", func := "loop.example/g00483/laws.FnFlushed", spec := "fnFlushed", unfollowed := true, recurses := true, apart := false, narrowed := true }
def FnFlushedUptoSaid : Prop := fnFlushedUptoRow.holds Try.pinned (OpenSpec.upto fnFlushedSpec)

/-- 'laws.FnExactNodeOf', WHERE WHAT IT READS IS OF BULK AT MOST 1048576: true; the input reads as it did. -/
def fnExactNodeOfUptoRow : OpenClaim := { program := "ytfpfdiagmnajaaa", sum := "0a12c3c50e2e65112a003d544a28b11f7b150e9235f2f1c753ce2270592867c8", func := "loop.example/g00483/laws.FnExactNodeOf", spec := "fnExactNodeOf", apart := false, narrowed := true }
def FnExactNodeOfUptoSaid : Prop := fnExactNodeOfUptoRow.holds Try.pinned (OpenSpec.upto fnExactNodeOfSpec)

/-- 'laws.FnExactHomeOf', WHERE WHAT IT READS IS OF BULK AT MOST 1048576: true; the input reads as it did. -/
def fnExactHomeOfUptoRow : OpenClaim := { program := "ytfpfdiagmnajaaa", sum := "0a12c3c50e2e65112a003d544a28b11f7b150e9235f2f1c753ce2270592867c8", func := "loop.example/g00483/laws.FnExactHomeOf", spec := "fnExactHomeOf", unfollowed := true, recurses := true, apart := false, narrowed := true }
def FnExactHomeOfUptoSaid : Prop := fnExactHomeOfUptoRow.holds Try.pinned (OpenSpec.upto fnExactHomeOfSpec)

/-- 'laws.FnExactSectorWrite', WHERE WHAT IT READS IS OF BULK AT MOST 1048576: true; the input reads as it did. -/
def fnExactSectorWriteUptoRow : OpenClaim := { program := "ytfpfdiagmnajaaa", sum := "0a12c3c50e2e65112a003d544a28b11f7b150e9235f2f1c753ce2270592867c8", func := "loop.example/g00483/laws.FnExactSectorWrite", spec := "fnExactSectorWrite", unfollowed := true, recurses := true, apart := false, narrowed := true }
def FnExactSectorWriteUptoSaid : Prop := fnExactSectorWriteUptoRow.holds Try.pinned (OpenSpec.upto fnExactSectorWriteSpec)

/-- 'laws.FnExactFlush', WHERE WHAT IT READS IS OF BULK AT MOST 1048576: true; the input reads as it did. -/
def fnExactFlushUptoRow : OpenClaim := { program := "ytfpfdiagmnajaaa", sum := "0a12c3c50e2e65112a003d544a28b11f7b150e9235f2f1c753ce2270592867c8", func := "loop.example/g00483/laws.FnExactFlush", spec := "fnExactFlush", unfollowed := true, recurses := true, apart := false, narrowed := true }
def FnExactFlushUptoSaid : Prop := fnExactFlushUptoRow.holds Try.pinned (OpenSpec.upto fnExactFlushSpec)

/-- 'laws.FnWithin', WHERE WHAT IT READS IS OF BULK AT MOST 1048576: true; the input reads as it did. -/
def fnWithinUptoRow : OpenClaim := { program := "ytfpfdiagmnajaaa", sum := "0a12c3c50e2e65112a003d544a28b11f7b150e9235f2f1c753ce2270592867c8", func := "loop.example/g00483/laws.FnWithin", spec := "fnWithin", inPlace := ["internal/abi.NoEscape", "internal/bytealg.MakeNoZero"], unfollowed := true, recurses := true, apart := false, narrowed := true }
def FnWithinUptoSaid : Prop := fnWithinUptoRow.holds Try.pinned (OpenSpec.upto fnWithinSpec)

/-- 'laws.FnExactFall', WHERE WHAT IT READS IS OF BULK AT MOST 1048576: true; the input reads as it did. -/
def fnExactFallUptoRow : OpenClaim := { program := "ytfpfdiagmnajaaa", sum := "0a12c3c50e2e65112a003d544a28b11f7b150e9235f2f1c753ce2270592867c8", func := "loop.example/g00483/laws.FnExactFall", spec := "fnExactFall", unfollowed := true, recurses := true, apart := false, narrowed := true }
def FnExactFallUptoSaid : Prop := fnExactFallUptoRow.holds Try.pinned (OpenSpec.upto fnExactFallSpec)

/-- 'laws.FnExactCommit', WHERE WHAT IT READS IS OF BULK AT MOST 1048576: true; the input reads as it did. -/
def fnExactCommitUptoRow : OpenClaim := { program := "ytfpfdiagmnajaaa", sum := "0a12c3c50e2e65112a003d544a28b11f7b150e9235f2f1c753ce2270592867c8", func := "loop.example/g00483/laws.FnExactCommit", spec := "fnExactCommit", apart := false, narrowed := true }
def FnExactCommitUptoSaid : Prop := fnExactCommitUptoRow.holds Try.pinned (OpenSpec.upto fnExactCommitSpec)

end Rows
end Go.Proofs.Ytfpfdiagmnajaaa
