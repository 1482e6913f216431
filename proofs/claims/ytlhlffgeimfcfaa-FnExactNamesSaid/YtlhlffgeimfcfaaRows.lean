/-
  No cell of these rows narrows 'for every input' (looked for: loops, veiled, ifaces, maps, wideKeys, modest, calm, conditions, laid).
  DERIVED. THE GIVEN ROWS OF THIS SEAT. 11 by the template 'for every input the law returns true; each argument reads behind the call as it read before'; 0 by the template 'total and deterministic' (their statements: YtlhlffgeimfcfaaTotals.lean).
  GIVEN WITH THE SEED: the statements are not yours to turn. If you find one false, say at which input.
  Laid BY PROGRAM, IN A SANDBOX (cutbox-rows.mjs): the forced cells as the released guide's own fill.sh prints them over the translation ab4379819b4ab79e… (all of the seat's roots in one cut). By AI agents, Wed Nov 11 2026. No macro, syntax, notation, axiom, sorry.
-/
import Derived.Test.YtlhlffgeimfcfaaChecked
import GoSem.Claim
import GoSem.ClaimJoined
import GoSem.ClaimMapViews
import Derived.JoinedTies
import Derived.KernelRfl
namespace Go.Proofs.Ytlhlffgeimfcfaa
/- THE CELL 'sum', in the pinned program and in every row, IS THE sha256 OF THE DUMP (.gsa) THAT YtlhlffgeimfcfaaProg.lean LOADS. Nothing in Lean hashes anything: it is a label: what it is worth is what the hold of that sum in a sandbox is worth. -/
noncomputable def Try.pinned : Pinned := { name := "ytlhlffgeimfcfaa", sum := "ab4379819b4ab79e2aa99cf5f734a17f51abcf7166dea51d7db0067eff3e0a50", checked := Try.checked }
namespace Rows
def none {H : Type} : Left H := { results := [], args := [] }

/-- 'laws.FnExactNames': WHATEVER THE INPUT: true; the input reads as it did. -/
def fnExactNamesSpec : ChangeSpec := { name := "fnExactNames", fn := fun _ => fun
  | [d] => { results := [.lit (.bool true)], args := [d] }
  | _ => none }
def fnExactNamesRow : OpenClaim := { program := "ytlhlffgeimfcfaa", sum := "ab4379819b4ab79e2aa99cf5f734a17f51abcf7166dea51d7db0067eff3e0a50", func := "loop.example/g00483/laws.FnExactNames", spec := "fnExactNames", unfollowed := true, recurses := true, apart := false }
def FnExactNamesSaid : Prop := fnExactNamesRow.holds Try.pinned (OpenSpec.ofChange fnExactNamesSpec)

/-- ITS FALSE NEIGHBOUR: 'it returns false'. Refute it at one input. -/
def fnExactNamesWrong : ChangeSpec := { name := "fnExactNames", fn := fun _ => fun
  | [d] => { results := [.lit (.bool false)], args := [d] }
  | _ => none }
def FnExactNamesWrongFalsely : Prop := fnExactNamesRow.holds Try.pinned (OpenSpec.ofChange fnExactNamesWrong)

/-- 'laws.FnExactHeadOf': WHATEVER THE INPUT: true; the input reads as it did. -/
def fnExactHeadOfSpec : ChangeSpec := { name := "fnExactHeadOf", fn := fun _ => fun
  | [d1, d2] => { results := [.lit (.bool true)], args := [d1, d2] }
  | _ => none }
def fnExactHeadOfRow : OpenClaim := { program := "ytlhlffgeimfcfaa", sum := "ab4379819b4ab79e2aa99cf5f734a17f51abcf7166dea51d7db0067eff3e0a50", func := "loop.example/g00483/laws.FnExactHeadOf", spec := "fnExactHeadOf", apart := false }
def FnExactHeadOfSaid : Prop := fnExactHeadOfRow.holds Try.pinned (OpenSpec.ofChange fnExactHeadOfSpec)

/-- ITS FALSE NEIGHBOUR: 'it returns false'. Refute it at one input. -/
def fnExactHeadOfWrong : ChangeSpec := { name := "fnExactHeadOf", fn := fun _ => fun
  | [d1, d2] => { results := [.lit (.bool false)], args := [d1, d2] }
  | _ => none }
def FnExactHeadOfWrongFalsely : Prop := fnExactHeadOfRow.holds Try.pinned (OpenSpec.ofChange fnExactHeadOfWrong)

/-- 'laws.FnExactDiskSame': WHATEVER THE INPUT: true; the input reads as it did. -/
def fnExactDiskSameSpec : ChangeSpec := { name := "fnExactDiskSame", fn := fun _ => fun
  | [d1, d2] => { results := [.lit (.bool true)], args := [d1, d2] }
  | _ => none }
def fnExactDiskSameRow : OpenClaim := { program := "ytlhlffgeimfcfaa", sum := "ab4379819b4ab79e2aa99cf5f734a17f51abcf7166dea51d7db0067eff3e0a50", func := "loop.example/g00483/laws.FnExactDiskSame", spec := "fnExactDiskSame", apart := false }
def FnExactDiskSameSaid : Prop := fnExactDiskSameRow.holds Try.pinned (OpenSpec.ofChange fnExactDiskSameSpec)

/-- ITS FALSE NEIGHBOUR: 'it returns false'. Refute it at one input. -/
def fnExactDiskSameWrong : ChangeSpec := { name := "fnExactDiskSame", fn := fun _ => fun
  | [d1, d2] => { results := [.lit (.bool false)], args := [d1, d2] }
  | _ => none }
def FnExactDiskSameWrongFalsely : Prop := fnExactDiskSameRow.holds Try.pinned (OpenSpec.ofChange fnExactDiskSameWrong)

/-- 'laws.FnExactDiskOk': WHATEVER THE INPUT: true; the input reads as it did. -/
def fnExactDiskOkSpec : ChangeSpec := { name := "fnExactDiskOk", fn := fun _ => fun
  | [d] => { results := [.lit (.bool true)], args := [d] }
  | _ => none }
def fnExactDiskOkRow : OpenClaim := { program := "ytlhlffgeimfcfaa", sum := "ab4379819b4ab79e2aa99cf5f734a17f51abcf7166dea51d7db0067eff3e0a50", func := "loop.example/g00483/laws.FnExactDiskOk", spec := "fnExactDiskOk", unfollowed := true, recurses := true, apart := false }
def FnExactDiskOkSaid : Prop := fnExactDiskOkRow.holds Try.pinned (OpenSpec.ofChange fnExactDiskOkSpec)

/-- ITS FALSE NEIGHBOUR: 'it returns false'. Refute it at one input. -/
def fnExactDiskOkWrong : ChangeSpec := { name := "fnExactDiskOk", fn := fun _ => fun
  | [d] => { results := [.lit (.bool false)], args := [d] }
  | _ => none }
def FnExactDiskOkWrongFalsely : Prop := fnExactDiskOkRow.holds Try.pinned (OpenSpec.ofChange fnExactDiskOkWrong)

/-- 'laws.FnExactSectorRead': WHATEVER THE INPUT: true; the input reads as it did. -/
def fnExactSectorReadSpec : ChangeSpec := { name := "fnExactSectorRead", fn := fun _ => fun
  | [d1, d2] => { results := [.lit (.bool true)], args := [d1, d2] }
  | _ => none }
def fnExactSectorReadRow : OpenClaim := { program := "ytlhlffgeimfcfaa", sum := "ab4379819b4ab79e2aa99cf5f734a17f51abcf7166dea51d7db0067eff3e0a50", func := "loop.example/g00483/laws.FnExactSectorRead", spec := "fnExactSectorRead", unfollowed := true, recurses := true, apart := false }
def FnExactSectorReadSaid : Prop := fnExactSectorReadRow.holds Try.pinned (OpenSpec.ofChange fnExactSectorReadSpec)

/-- ITS FALSE NEIGHBOUR: 'it returns false'. Refute it at one input. -/
def fnExactSectorReadWrong : ChangeSpec := { name := "fnExactSectorRead", fn := fun _ => fun
  | [d1, d2] => { results := [.lit (.bool false)], args := [d1, d2] }
  | _ => none }
def FnExactSectorReadWrongFalsely : Prop := fnExactSectorReadRow.holds Try.pinned (OpenSpec.ofChange fnExactSectorReadWrong)

/-- 'laws.FnExactFsNew': WHATEVER THE INPUT: true; the input reads as it did. -/
def fnExactFsNewSpec : ChangeSpec := { name := "fnExactFsNew", fn := fun _ => fun
  | [d1, d2] => { results := [.lit (.bool true)], args := [d1, d2] }
  | _ => none }
def fnExactFsNewRow : OpenClaim := { program := "ytlhlffgeimfcfaa", sum := "ab4379819b4ab79e2aa99cf5f734a17f51abcf7166dea51d7db0067eff3e0a50", func := "loop.example/g00483/laws.FnExactFsNew", spec := "fnExactFsNew", apart := false }
def FnExactFsNewSaid : Prop := fnExactFsNewRow.holds Try.pinned (OpenSpec.ofChange fnExactFsNewSpec)

/-- ITS FALSE NEIGHBOUR: 'it returns false'. Refute it at one input. -/
def fnExactFsNewWrong : ChangeSpec := { name := "fnExactFsNew", fn := fun _ => fun
  | [d1, d2] => { results := [.lit (.bool false)], args := [d1, d2] }
  | _ => none }
def FnExactFsNewWrongFalsely : Prop := fnExactFsNewRow.holds Try.pinned (OpenSpec.ofChange fnExactFsNewWrong)

/-- 'laws.FnExactNodeText': WHATEVER THE INPUT: true; the input reads as it did. -/
def fnExactNodeTextSpec : ChangeSpec := { name := "fnExactNodeText", fn := fun _ => fun
  | [d] => { results := [.lit (.bool true)], args := [d] }
  | _ => none }
def fnExactNodeTextRow : OpenClaim := { program := "ytlhlffgeimfcfaa", sum := "ab4379819b4ab79e2aa99cf5f734a17f51abcf7166dea51d7db0067eff3e0a50", func := "loop.example/g00483/laws.FnExactNodeText", spec := "fnExactNodeText", apart := false }
def FnExactNodeTextSaid : Prop := fnExactNodeTextRow.holds Try.pinned (OpenSpec.ofChange fnExactNodeTextSpec)

/-- ITS FALSE NEIGHBOUR: 'it returns false'. Refute it at one input. -/
def fnExactNodeTextWrong : ChangeSpec := { name := "fnExactNodeText", fn := fun _ => fun
  | [d] => { results := [.lit (.bool false)], args := [d] }
  | _ => none }
def FnExactNodeTextWrongFalsely : Prop := fnExactNodeTextRow.holds Try.pinned (OpenSpec.ofChange fnExactNodeTextWrong)

/-- 'laws.FnExactPathOf': WHATEVER THE INPUT: true; the input reads as it did. -/
def fnExactPathOfSpec : ChangeSpec := { name := "fnExactPathOf", fn := fun _ => fun
  | [d] => { results := [.lit (.bool true)], args := [d] }
  | _ => none }
def fnExactPathOfRow : OpenClaim := { program := "ytlhlffgeimfcfaa", sum := "ab4379819b4ab79e2aa99cf5f734a17f51abcf7166dea51d7db0067eff3e0a50", func := "loop.example/g00483/laws.FnExactPathOf", spec := "fnExactPathOf", inPlace := ["internal/abi.NoEscape", "internal/bytealg.MakeNoZero"], unfollowed := true, recurses := true, apart := false }
def FnExactPathOfSaid : Prop := fnExactPathOfRow.holds Try.pinned (OpenSpec.ofChange fnExactPathOfSpec)

/-- ITS FALSE NEIGHBOUR: 'it returns false'. Refute it at one input. -/
def fnExactPathOfWrong : ChangeSpec := { name := "fnExactPathOf", fn := fun _ => fun
  | [d] => { results := [.lit (.bool false)], args := [d] }
  | _ => none }
def FnExactPathOfWrongFalsely : Prop := fnExactPathOfRow.holds Try.pinned (OpenSpec.ofChange fnExactPathOfWrong)

/-- 'laws.FnExactPathJoin': WHATEVER THE INPUT: true; the input reads as it did. -/
def fnExactPathJoinSpec : ChangeSpec := { name := "fnExactPathJoin", fn := fun _ => fun
  | [d1, d2] => { results := [.lit (.bool true)], args := [d1, d2] }
  | _ => none }
def fnExactPathJoinRow : OpenClaim := { program := "ytlhlffgeimfcfaa", sum := "ab4379819b4ab79e2aa99cf5f734a17f51abcf7166dea51d7db0067eff3e0a50", func := "loop.example/g00483/laws.FnExactPathJoin", spec := "fnExactPathJoin", inPlace := ["internal/abi.NoEscape", "internal/bytealg.MakeNoZero"], unfollowed := true, recurses := true, apart := false }
def FnExactPathJoinSaid : Prop := fnExactPathJoinRow.holds Try.pinned (OpenSpec.ofChange fnExactPathJoinSpec)

/-- ITS FALSE NEIGHBOUR: 'it returns false'. Refute it at one input. -/
def fnExactPathJoinWrong : ChangeSpec := { name := "fnExactPathJoin", fn := fun _ => fun
  | [d1, d2] => { results := [.lit (.bool false)], args := [d1, d2] }
  | _ => none }
def FnExactPathJoinWrongFalsely : Prop := fnExactPathJoinRow.holds Try.pinned (OpenSpec.ofChange fnExactPathJoinWrong)

/-- 'laws.FnExactHeadText': WHATEVER THE INPUT: true; the input reads as it did. -/
def fnExactHeadTextSpec : ChangeSpec := { name := "fnExactHeadText", fn := fun _ => fun
  | [d] => { results := [.lit (.bool true)], args := [d] }
  | _ => none }
def fnExactHeadTextRow : OpenClaim := { program := "ytlhlffgeimfcfaa", sum := "ab4379819b4ab79e2aa99cf5f734a17f51abcf7166dea51d7db0067eff3e0a50", func := "loop.example/g00483/laws.FnExactHeadText", spec := "fnExactHeadText", apart := false }
def FnExactHeadTextSaid : Prop := fnExactHeadTextRow.holds Try.pinned (OpenSpec.ofChange fnExactHeadTextSpec)

/-- ITS FALSE NEIGHBOUR: 'it returns false'. Refute it at one input. -/
def fnExactHeadTextWrong : ChangeSpec := { name := "fnExactHeadText", fn := fun _ => fun
  | [d] => { results := [.lit (.bool false)], args := [d] }
  | _ => none }
def FnExactHeadTextWrongFalsely : Prop := fnExactHeadTextRow.holds Try.pinned (OpenSpec.ofChange fnExactHeadTextWrong)

/-- 'laws.FnExactAbove': WHATEVER THE INPUT: true; the input reads as it did. -/
def fnExactAboveSpec : ChangeSpec := { name := "fnExactAbove", fn := fun _ => fun
  | [d] => { results := [.lit (.bool true)], args := [d] }
  | _ => none }
def fnExactAboveRow : OpenClaim := { program := "ytlhlffgeimfcfaa", sum := "ab4379819b4ab79e2aa99cf5f734a17f51abcf7166dea51d7db0067eff3e0a50", func := "loop.example/g00483/laws.FnExactAbove", spec := "fnExactAbove", inPlace := ["internal/abi.NoEscape", "internal/bytealg.MakeNoZero"], unfollowed := true, recurses := true, apart := false }
def FnExactAboveSaid : Prop := fnExactAboveRow.holds Try.pinned (OpenSpec.ofChange fnExactAboveSpec)

/-- ITS FALSE NEIGHBOUR: 'it returns false'. Refute it at one input. -/
def fnExactAboveWrong : ChangeSpec := { name := "fnExactAbove", fn := fun _ => fun
  | [d] => { results := [.lit (.bool false)], args := [d] }
  | _ => none }
def FnExactAboveWrongFalsely : Prop := fnExactAboveRow.holds Try.pinned (OpenSpec.ofChange fnExactAboveWrong)

/- THE SECOND FORM. 'bulk': how many values and letters a reading holds, each counted each time it is reached (what is shared counts as often as it is met; a slice's spare places count too). A statement '..UptoSaid' is the law's where the arguments, and the package variables that the reading takes, are together of bulk at most 1048576: NARROWER than '..Said'. Prove '..Said' where nothing that the law and all that it calls make is longer than what came in: it says more and counts as full. Else prove '..UptoSaid'. A law counts once. -/
mutual
def uptoBulk {H : Type} : DataW H → Nat
  | .lit (.string bytes) => bytes.length + 1
  | .lit _ => 1
  | .nil => 1
  | .ptr d => uptoBulk d + 1
  | .slice elems spare => uptoBulkAll elems + uptoBulkAll spare + 1
  | .agg parts => uptoBulkAll parts + 1
  | .iface _ d => uptoBulk d + 1
  | .map entries => uptoBulkEntries entries + 1
  | .held _ => 1
def uptoBulkAll {H : Type} : List (DataW H) → Nat
  | [] => 0
  | d :: r => uptoBulk d + uptoBulkAll r
def uptoBulkEntries {H : Type} : List (Lit × DataW H) → Nat
  | [] => 0
  | x :: r => uptoBulkEntry x + uptoBulkEntries r
def uptoBulkEntry {H : Type} : Lit × DataW H → Nat
  | (.string bytes, d) => bytes.length + uptoBulk d + 1
  | (_, d) => uptoBulk d + 1
 end
def uptoSmall : (H : Type) → List (DataW H) → Bool := fun _ ds => decide (uptoBulkAll ds ≤ 1048576)
def OpenSpec.upto (s : _root_.Go.ChangeSpec) : _root_.Go.OpenSpec := { _root_.Go.OpenSpec.ofChange s with cond := some uptoSmall }

/-- 'laws.FnExactNames', WHERE WHAT IT READS IS OF BULK AT MOST 1048576: true; the input reads as it did. -/
def fnExactNamesUptoRow : OpenClaim := { program := "ytlhlffgeimfcfaa", sum := "ab4379819b4ab79e2aa99cf5f734a17f51abcf7166dea51d7db0067eff3e0a50", func := "loop.example/g00483/laws.FnExactNames", spec := "fnExactNames", unfollowed := true, recurses := true, apart := false, narrowed := true }
def FnExactNamesUptoSaid : Prop := fnExactNamesUptoRow.holds Try.pinned (OpenSpec.upto fnExactNamesSpec)

/-- 'laws.FnExactHeadOf', WHERE WHAT IT READS IS OF BULK AT MOST 1048576: true; the input reads as it did. -/
def fnExactHeadOfUptoRow : OpenClaim := { program := "ytlhlffgeimfcfaa", sum := "ab4379819b4ab79e2aa99cf5f734a17f51abcf7166dea51d7db0067eff3e0a50", func := "loop.example/g00483/laws.FnExactHeadOf", spec := "fnExactHeadOf", apart := false, narrowed := true }
def FnExactHeadOfUptoSaid : Prop := fnExactHeadOfUptoRow.holds Try.pinned (OpenSpec.upto fnExactHeadOfSpec)

/-- 'laws.FnExactDiskSame', WHERE WHAT IT READS IS OF BULK AT MOST 1048576: true; the input reads as it did. -/
def fnExactDiskSameUptoRow : OpenClaim := { program := "ytlhlffgeimfcfaa", sum := "ab4379819b4ab79e2aa99cf5f734a17f51abcf7166dea51d7db0067eff3e0a50", func := "loop.example/g00483/laws.FnExactDiskSame", spec := "fnExactDiskSame", apart := false, narrowed := true }
def FnExactDiskSameUptoSaid : Prop := fnExactDiskSameUptoRow.holds Try.pinned (OpenSpec.upto fnExactDiskSameSpec)

/-- 'laws.FnExactDiskOk', WHERE WHAT IT READS IS OF BULK AT MOST 1048576: true; the input reads as it did. -/
def fnExactDiskOkUptoRow : OpenClaim := { program := "ytlhlffgeimfcfaa", sum := "ab4379819b4ab79e2aa99cf5f734a17f51abcf7166dea51d7db0067eff3e0a50", func := "loop.example/g00483/laws.FnExactDiskOk", spec := "fnExactDiskOk", unfollowed := true, recurses := true, apart := false, narrowed := true }
def FnExactDiskOkUptoSaid : Prop := fnExactDiskOkUptoRow.holds Try.pinned (OpenSpec.upto fnExactDiskOkSpec)

/-- 'laws.FnExactSectorRead', WHERE WHAT IT READS IS OF BULK AT MOST 1048576: true; the input reads as it did. -/
def fnExactSectorReadUptoRow : OpenClaim := { program := "ytlhlffgeimfcfaa", sum := "ab4379819b4ab79e2aa99cf5f734a17f51abcf7166dea51d7db0067eff3e0a50", func := "loop.example/g00483/laws.FnExactSectorRead", spec := "fnExactSectorRead", unfollowed := true, recurses := true, apart := false, narrowed := true }
def FnExactSectorReadUptoSaid : Prop := fnExactSectorReadUptoRow.holds Try.pinned (OpenSpec.upto fnExactSectorReadSpec)

/-- 'laws.FnExactFsNew', WHERE WHAT IT READS IS OF BULK AT MOST 1048576: true; the input reads as it did. -/
def fnExactFsNewUptoRow : OpenClaim := { program := "ytlhlffgeimfcfaa", sum := "ab4379819b4ab79e2aa99cf5f734a17f51abcf7166dea51d7db0067eff3e0a50", func := "loop.example/g00483/laws.FnExactFsNew", spec := "fnExactFsNew", apart := false, narrowed := true }
def FnExactFsNewUptoSaid : Prop := fnExactFsNewUptoRow.holds Try.pinned (OpenSpec.upto fnExactFsNewSpec)

/-- 'laws.FnExactNodeText', WHERE WHAT IT READS IS OF BULK AT MOST 1048576: true; the input reads as it did. -/
def fnExactNodeTextUptoRow : OpenClaim := { program := "ytlhlffgeimfcfaa", sum := "ab4379819b4ab79e2aa99cf5f734a17f51abcf7166dea51d7db0067eff3e0a50", func := "loop.example/g00483/laws.FnExactNodeText", spec := "fnExactNodeText", apart := false, narrowed := true }
def FnExactNodeTextUptoSaid : Prop := fnExactNodeTextUptoRow.holds Try.pinned (OpenSpec.upto fnExactNodeTextSpec)

/-- 'laws.FnExactPathOf', WHERE WHAT IT READS IS OF BULK AT MOST 1048576: true; the input reads as it did. -/
def fnExactPathOfUptoRow : OpenClaim := { program := "ytlhlffgeimfcfaa", sum := "ab4379819b4ab79e2aa99cf5f734a17f51abcf7166dea51d7db0067eff3e0a50", func := "loop.example/g00483/laws.FnExactPathOf", spec := "fnExactPathOf", inPlace := ["internal/abi.NoEscape", "internal/bytealg.MakeNoZero"], unfollowed := true, recurses := true, apart := false, narrowed := true }
def FnExactPathOfUptoSaid : Prop := fnExactPathOfUptoRow.holds Try.pinned (OpenSpec.upto fnExactPathOfSpec)

/-- 'laws.FnExactPathJoin', WHERE WHAT IT READS IS OF BULK AT MOST 1048576: true; the input reads as it did. -/
def fnExactPathJoinUptoRow : OpenClaim := { program := "ytlhlffgeimfcfaa", sum := "ab4379819b4ab79e2aa99cf5f734a17f51abcf7166dea51d7db0067eff3e0a50", func := "loop.example/g00483/laws.FnExactPathJoin", spec := "fnExactPathJoin", inPlace := ["internal/abi.NoEscape", "internal/bytealg.MakeNoZero"], unfollowed := true, recurses := true, apart := false, narrowed := true }
def FnExactPathJoinUptoSaid : Prop := fnExactPathJoinUptoRow.holds Try.pinned (OpenSpec.upto fnExactPathJoinSpec)

/-- 'laws.FnExactHeadText', WHERE WHAT IT READS IS OF BULK AT MOST 1048576: true; the input reads as it did. -/
def fnExactHeadTextUptoRow : OpenClaim := { program := "ytlhlffgeimfcfaa", sum := "ab4379819b4ab79e2aa99cf5f734a17f51abcf7166dea51d7db0067eff3e0a50", func := "loop.example/g00483/laws.FnExactHeadText", spec := "fnExactHeadText", apart := false, narrowed := true }
def FnExactHeadTextUptoSaid : Prop := fnExactHeadTextUptoRow.holds Try.pinned (OpenSpec.upto fnExactHeadTextSpec)

/-- 'laws.FnExactAbove', WHERE WHAT IT READS IS OF BULK AT MOST 1048576: true; the input reads as it did. -/
def fnExactAboveUptoRow : OpenClaim := { program := "ytlhlffgeimfcfaa", sum := "ab4379819b4ab79e2aa99cf5f734a17f51abcf7166dea51d7db0067eff3e0a50", func := "loop.example/g00483/laws.FnExactAbove", spec := "fnExactAbove", inPlace := ["internal/abi.NoEscape", "internal/bytealg.MakeNoZero"], unfollowed := true, recurses := true, apart := false, narrowed := true }
def FnExactAboveUptoSaid : Prop := fnExactAboveUptoRow.holds Try.pinned (OpenSpec.upto fnExactAboveSpec)

end Rows
end Go.Proofs.Ytlhlffgeimfcfaa
