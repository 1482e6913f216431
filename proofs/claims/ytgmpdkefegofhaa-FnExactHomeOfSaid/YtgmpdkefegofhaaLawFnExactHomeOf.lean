-- Written by xprint.py, a program of this session over the kit's print. Not trusted: Lean checks it.
/- The row of the law laws_FnExactHomeOf out of its pure statement and the walk of its function. No condition. -/
import Derived.Test.YtgmpdkefegofhaaRows
import Derived.Test.YtgmpdkefegofhaaPFnExactHomeOfx6
import Derived.Test.YtgmpdkefegofhaaPureFnExactHomeOf
import Derived.Test.YtgmpdkefegofhaaJFnExactHomeOf
import Derived.WalkKit
import Derived.ProofKit
import Derived.OpenShut
import Derived.ShutString
import Derived.ChangeOld
import Derived.Below
import Derived.SizedLaws
namespace Go.Proofs.Ytgmpdkefegofhaa.fnExactHomeOf
open Go.ChangeShapes Go.WideShapes Go.ChangeAt Go.RowKit Go.Proofs.YtgmpdkefegofhaaW.PrintWords Go.Proofs.Ytgmpdkefegofhaa.Opening Go.Proofs.Ytgmpdkefegofhaa.PFnExactHomeOf
open Go.ChangeMaps (open_string shut_string)
set_option linter.unusedVariables false
theorem own : ownKnob Try.prog.godebug = none := by kernel_rfl
theorem laidOut : laidOutB Try.prog = true := by kernel_rfl
set_option maxHeartbeats 1000000 in
set_option maxRecDepth 100000 in
theorem lifted (os : Os) (started : os.Started) (H : Type) (enc : TypeId × Value → H) :
    ReturnsInHanded {} Try.checked os 5 .any (Rows.fnExactHomeOfSpec.pre6 enc Try.prog Try.f5 Rows.fnExactHomeOfRow.domain false) (Rows.fnExactHomeOfSpec.post enc Try.prog Try.f5 false true false false) := by
  refine returnsInHanded_of_change_sized (C := Try.checked) own started (by kernel_rfl) Try.func5
    (ChangeSpec.witness6 (enc := enc) (C := Try.checked) false ⟨#[], #[.agg #[.slice none 0 0, .slice none 0 0], .int .i64 0], []⟩ 8 (by kernel_rfl) (by kernel_rfl) (by kernel_rfl) (by kernel_rfl)) ?_
  intro W base args ds gs before hval0 hW hcnd hsz0 _
  have hval : ∀ (j : Nat) t v, Try.f5.params[j]? = some t → args[j]? = some v → Value.okWide Try.prog W .any base t v := hval0
  have hW' := hW
  obtain ⟨p, q, hA0, hV, rfl, hfz, hnd⟩ := hW
  have hA : DataW.TrodAll enc Try.prog W 0 (fun _ => true) true Try.f5.params.toList args.toList ds p := hA0
  rw [Try.params5] at hA hval
  obtain ⟨v0, vs0, d0, ds0, p0, q0, hargs, rfl, rfl, h0, r0⟩ := trodAll_cons hA
  obtain ⟨v1, vs1, d1, ds1, p1, q1, rfl, rfl, rfl, h1, r1⟩ := trodAll_cons r0
  obtain ⟨rfl, rfl, rfl⟩ := trodAll_nil r1
  obtain rfl : args = #[v0, v1] := by cases args; simp_all
  obtain ⟨rfl, rfl⟩ := trodVars_none hV
  have k0 := h0
  have lt0 : ∀ x ∈ p0, x.block < W.heap.size := by obtain ⟨m, hm⟩ := k0; exact DataW.trod_lt m _ _ _ hm
  obtain ⟨cs0, rfl, _⟩ := okWide_struct Try.underlying25 (hval 0 25 v0 rfl rfl)
  obtain ⟨fuel0, hf0⟩ := h0
  obtain ⟨x0, hK0, hg0⟩ := (opens_two Try.underlying25 (by kernel_rfl) (by kernel_rfl) (opens_slice Try.underlying22 (by kernel_rfl) (opens_string Try.underlying9)) (opens_slice Try.underlying23 (by kernel_rfl) (show Opens _ _ k111 _ from opens_iso (opens_two Try.underlying111 (by kernel_rfl) (by kernel_rfl) (opens_int Try.underlying3) (opens_string Try.underlying9)) _ (fun p => ⟨p.1, p.2⟩) (fun _ => rfl)))) hf0
  obtain ⟨y0_0, z0_0, e0, ⟨B0_0, c0_0, rfl, hc0_0, hr0_0⟩, ⟨B0_1, c0_1, rfl, hc0_1, hr0_1⟩⟩ := hK0
  obtain rfl : cs0 = #[.slice B0_0 x0.1.length c0_0, .slice B0_1 x0.2.length c0_1] := by apply Array.toList_inj.mp; simpa [Value.cells] using e0
  have k1 := h1
  have lt1 : ∀ x ∈ p1, x.block < W.heap.size := by obtain ⟨m, hm⟩ := k1; exact DataW.trod_lt m _ _ _ hm
  obtain ⟨a1, rfl, _, _, w1⟩ := open_int Try.underlying3 (hval 1 3 v1 rfl rfl) h1
  clear hA0 hval0 hsz0
  have hp := Pure.FnExactHomeOf x0.1 x0.2 a1 hg0.1 hg0.2 w1
  obtain ⟨k, hk⟩ := hp
  refine (PFnExactHomeOf.laws_FnExactHomeOf.calls k _ _ x0.1 _ _ x0.2 a1 true W hr0_0 hc0_0 hr0_1 hc0_1 hk).mono fun e W' ⟨he, bel0⟩ => ?_
  have bel : Below W.heap.size W W' := bel0
  subst he
  exact ⟨_, rfl, _, _, _, [], _, [], hW', trodAll_mk1 (shut_bool Try.underlying4 _), (trodAll_cons_mk (Below.trod laidOut (by kernel_rfl) (of_decide_eq_true (by kernel_rfl)) k0 bel lt0) (trodAll_cons_mk (Below.trod laidOut (by kernel_rfl) (of_decide_eq_true (by kernel_rfl)) k1 bel lt1) trodAll_mk0)), rfl, bel.frame _, fun h => by cases h⟩
theorem over : Rows.fnExactHomeOfRow.holds Try.pinned (OpenSpec.ofChange Rows.fnExactHomeOfSpec) :=
  OpenClaim.holds_of_wide 5 Try.f5 rfl rfl rfl rfl rfl rfl rfl ⟨rfl, rfl, rfl, rfl, rfl⟩ rfl rfl rfl rfl rfl (by kernel_rfl) Try.func5 (by kernel_rfl)
    (of_decide_eq_true (by kernel_rfl)) (by unfold Func.isWrapper; first | (rw [if_pos (by decide +kernel)]; kernel_rfl) | (rw [if_neg (by decide +kernel)]; exact ⟨rfl, rfl⟩))
    (fun os started H enc _ => lifted os started H enc)
theorem proved : Rows.FnExactHomeOfSaid := over
#print axioms proved
end Go.Proofs.Ytgmpdkefegofhaa.fnExactHomeOf
namespace Go.Proofs.Ytgmpdkefegofhaa
/-- The row, under a short name, for the claim. -/
theorem fnExactHomeOf_holds : Rows.FnExactHomeOfSaid := fnExactHomeOf.proved
end Go.Proofs.Ytgmpdkefegofhaa
