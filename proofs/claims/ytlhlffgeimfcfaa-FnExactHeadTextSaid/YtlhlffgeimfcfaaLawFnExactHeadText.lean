-- Written by xprint.py, a program of this session over the kit's print. Not trusted: Lean checks it.
/- The row of the law laws_FnExactHeadText out of its pure statement and the walk of its function. No condition. -/
import Derived.Test.YtlhlffgeimfcfaaRows
import Derived.Test.YtlhlffgeimfcfaaPFnExactHeadTextx5
import Derived.Test.YtlhlffgeimfcfaaPureFnExactHeadText
import Derived.Test.YtlhlffgeimfcfaaOpen
import Derived.WalkKit
import Derived.ProofKit
import Derived.OpenShut
import Derived.ShutString
import Derived.ChangeOld
import Derived.Below
import Derived.SizedLaws
namespace Go.Proofs.Ytlhlffgeimfcfaa.fnExactHeadText
open Go.ChangeShapes Go.WideShapes Go.ChangeAt Go.RowKit Go.Proofs.YtlhlffgeimfcfaaW.PrintWords Go.Proofs.Ytlhlffgeimfcfaa.Opening Go.Proofs.Ytlhlffgeimfcfaa.PFnExactHeadText
open Go.ChangeMaps (open_string shut_string)
set_option linter.unusedVariables false
theorem own : ownKnob Try.prog.godebug = none := by kernel_rfl
theorem laidOut : laidOutB Try.prog = true := by kernel_rfl
set_option maxHeartbeats 1000000 in
set_option maxRecDepth 100000 in
theorem lifted (os : Os) (started : os.Started) (H : Type) (enc : TypeId × Value → H) :
    ReturnsInHanded {} Try.checked os 12 .any (Rows.fnExactHeadTextSpec.pre6 enc Try.prog Try.f12 Rows.fnExactHeadTextRow.domain false) (Rows.fnExactHeadTextSpec.post enc Try.prog Try.f12 false true false false) := by
  refine returnsInHanded_of_change_sized (C := Try.checked) own started (by kernel_rfl) Try.func12
    (ChangeSpec.witness6 (enc := enc) (C := Try.checked) false ⟨#[], #[.slice none 0 0], []⟩ 8 (by kernel_rfl) (by kernel_rfl) (by kernel_rfl) (by kernel_rfl)) ?_
  intro W base args ds gs before hval0 hW hcnd hsz0 _
  have hval : ∀ (j : Nat) t v, Try.f12.params[j]? = some t → args[j]? = some v → Value.okWide Try.prog W .any base t v := hval0
  have hW' := hW
  obtain ⟨p, q, hA0, hV, rfl, hfz, hnd⟩ := hW
  have hA : DataW.TrodAll enc Try.prog W 0 (fun _ => true) true Try.f12.params.toList args.toList ds p := hA0
  rw [Try.params12] at hA hval
  obtain ⟨v0, vs0, d0, ds0, p0, q0, hargs, rfl, rfl, h0, r0⟩ := trodAll_cons hA
  obtain ⟨rfl, rfl, rfl⟩ := trodAll_nil r0
  obtain rfl : args = #[v0] := by cases args; simp_all
  obtain ⟨rfl, rfl⟩ := trodVars_none hV
  have k0 := h0
  have lt0 : ∀ x ∈ p0, x.block < W.heap.size := by obtain ⟨m, hm⟩ := k0; exact DataW.trod_lt m _ _ _ hm
  obtain ⟨A0, len0, cap0, rfl⟩ := okWide_slice Try.underlying33 (hval 0 33 v0 rfl rfl)
  obtain ⟨fuel0, hf0⟩ := h0
  obtain ⟨x0, ⟨B0, c0, e0, hc0, hr0⟩, hg0⟩ := (opens_slice Try.underlying33 (by kernel_rfl) (show Opens _ _ k98 _ from opens_iso (opens_two Try.underlying98 (by kernel_rfl) (by kernel_rfl) (opens_int Try.underlying3) (opens_string Try.underlying9)) _ (fun p => ⟨p.1, p.2⟩) (fun _ => rfl))) hf0
  simp only [Value.cells, List.cons.injEq, and_true, Value.slice.injEq] at e0
  obtain ⟨rfl, rfl, rfl⟩ := e0
  clear hA0 hval0 hsz0
  have hp := Pure.FnExactHeadText x0 hg0
  obtain ⟨k, hk⟩ := hp
  refine (PFnExactHeadText.laws_FnExactHeadText.calls k _ _ x0 true W hr0 hc0 hk).mono fun e W' ⟨he, bel0⟩ => ?_
  have bel : Below W.heap.size W W' := bel0
  subst he
  exact ⟨_, rfl, _, _, _, [], _, [], hW', trodAll_mk1 (shut_bool Try.underlying4 _), (trodAll_cons_mk (Below.trod laidOut (by kernel_rfl) (of_decide_eq_true (by kernel_rfl)) k0 bel lt0) trodAll_mk0), rfl, bel.frame _, fun h => by cases h⟩
theorem over : Rows.fnExactHeadTextRow.holds Try.pinned (OpenSpec.ofChange Rows.fnExactHeadTextSpec) :=
  OpenClaim.holds_of_wide 12 Try.f12 rfl rfl rfl rfl rfl rfl rfl ⟨rfl, rfl, rfl, rfl, rfl⟩ rfl rfl rfl rfl rfl (by kernel_rfl) Try.func12 (by kernel_rfl)
    (of_decide_eq_true (by kernel_rfl)) (by unfold Func.isWrapper; first | (rw [if_pos (by decide +kernel)]; kernel_rfl) | (rw [if_neg (by decide +kernel)]; exact ⟨rfl, rfl⟩))
    (fun os started H enc _ => lifted os started H enc)
theorem proved : Rows.FnExactHeadTextSaid := over
#print axioms proved
end Go.Proofs.Ytlhlffgeimfcfaa.fnExactHeadText
namespace Go.Proofs.Ytlhlffgeimfcfaa
/-- The row, under a short name, for the claim. -/
theorem fnExactHeadText_holds : Rows.FnExactHeadTextSaid := fnExactHeadText.proved
end Go.Proofs.Ytlhlffgeimfcfaa
