-- Written by xprint.py, a program of this session over the kit's print. Not trusted: Lean checks it.
/- The row of the law laws_FnExactEventsDo out of its pure statement and the walk of its function. No condition. -/
import Derived.Test.YtgmpdkefegofhaaRows
import Derived.Test.YtgmpdkefegofhaaPFnExactEventsDox9
import Derived.Test.YtgmpdkefegofhaaPureFnExactEventsDo
import Derived.Test.YtgmpdkefegofhaaOpen
import Derived.WalkKit
import Derived.ProofKit
import Derived.OpenShut
import Derived.ShutString
import Derived.ChangeOld
import Derived.Below
import Derived.SizedLaws
namespace Go.Proofs.Ytgmpdkefegofhaa.fnExactEventsDo
open Go.ChangeShapes Go.WideShapes Go.ChangeAt Go.RowKit Go.Proofs.YtgmpdkefegofhaaW.PrintWords Go.Proofs.Ytgmpdkefegofhaa.Opening Go.Proofs.Ytgmpdkefegofhaa.PFnExactEventsDo
open Go.ChangeMaps (open_string shut_string)
set_option linter.unusedVariables false
theorem own : ownKnob Try.prog.godebug = none := by kernel_rfl
theorem laidOut : laidOutB Try.prog = true := by kernel_rfl
set_option maxHeartbeats 1000000 in
set_option maxRecDepth 100000 in
theorem lifted (os : Os) (started : os.Started) (H : Type) (enc : TypeId × Value → H) :
    ReturnsInHanded {} Try.checked os 9 .any (Rows.fnExactEventsDoSpec.pre6 enc Try.prog Try.f9 Rows.fnExactEventsDoRow.domain false) (Rows.fnExactEventsDoSpec.post enc Try.prog Try.f9 false true false false) := by
  refine returnsInHanded_of_change_sized (C := Try.checked) own started (by kernel_rfl) Try.func9
    (ChangeSpec.witness6 (enc := enc) (C := Try.checked) false ⟨#[], #[.agg #[.slice none 0 0, .slice none 0 0], .slice none 0 0], []⟩ 8 (by kernel_rfl) (by kernel_rfl) (by kernel_rfl) (by kernel_rfl)) ?_
  intro W base args ds gs before hval0 hW hcnd hsz0 _
  have hval : ∀ (j : Nat) t v, Try.f9.params[j]? = some t → args[j]? = some v → Value.okWide Try.prog W .any base t v := hval0
  have hW' := hW
  obtain ⟨p, q, hA0, hV, rfl, hfz, hnd⟩ := hW
  have hA : DataW.TrodAll enc Try.prog W 0 (fun _ => true) true Try.f9.params.toList args.toList ds p := hA0
  rw [Try.params9] at hA hval
  obtain ⟨v0, vs0, d0, ds0, p0, q0, hargs, rfl, rfl, h0, r0⟩ := trodAll_cons hA
  obtain ⟨v1, vs1, d1, ds1, p1, q1, rfl, rfl, rfl, h1, r1⟩ := trodAll_cons r0
  obtain ⟨rfl, rfl, rfl⟩ := trodAll_nil r1
  obtain rfl : args = #[v0, v1] := by cases args; simp_all
  obtain ⟨rfl, rfl⟩ := trodVars_none hV
  have k0 := h0
  have lt0 : ∀ x ∈ p0, x.block < W.heap.size := by obtain ⟨m, hm⟩ := k0; exact DataW.trod_lt m _ _ _ hm
  obtain ⟨cs0, rfl, _⟩ := okWide_struct Try.underlying25 (hval 0 25 v0 rfl rfl)
  obtain ⟨fuel0, hf0⟩ := h0
  obtain ⟨x0, hK0, hg0⟩ := (opens_two Try.underlying25 (by kernel_rfl) (by kernel_rfl) (opens_slice Try.underlying22 (by kernel_rfl) (opens_string Try.underlying9)) (opens_slice Try.underlying23 (by kernel_rfl) (show Opens _ _ k111 _ from opens_iso (opens_two Try.underlying111 (by kernel_rfl) (by kernel_rfl) (opens_int Try.underlying3) (opens_string Try.underlying9)) _ (fun p => ⟨p.1, p.2⟩) (fun _ => rfl)))) hf0
  obtain ⟨y0_0, z0_0, e0, ⟨B0_0, c0_0, rfl, hc0_0, hr0_0⟩, ⟨B0_1, c0_1, rfl, hc0_1, hr0_1⟩⟩ := hK0
  obtain rfl : cs0 = #[.slice B0_0 x0.1.length c0_0, .slice B0_1 x0.2.length c0_1] := by apply Array.toList_inj.mp; simpa [Value.cells] using e0
  have k1 := h1
  have lt1 : ∀ x ∈ p1, x.block < W.heap.size := by obtain ⟨m, hm⟩ := k1; exact DataW.trod_lt m _ _ _ hm
  obtain ⟨A1, len1, cap1, rfl⟩ := okWide_slice Try.underlying51 (hval 1 51 v1 rfl rfl)
  obtain ⟨fuel1, hf1⟩ := h1
  obtain ⟨x1, ⟨B1, c1, e1, hc1, hr1⟩, hg1⟩ := (opens_slice Try.underlying51 (by kernel_rfl) (show Opens _ _ k91 _ from opens_iso (opens_three Try.underlying91 (by kernel_rfl) (by kernel_rfl) (opens_int Try.underlying3) (opens_int Try.underlying3) (opens_string Try.underlying9)) _ (fun p => ⟨p.1, p.2.1, p.2.2⟩) (fun _ => rfl))) hf1
  simp only [Value.cells, List.cons.injEq, and_true, Value.slice.injEq] at e1
  obtain ⟨rfl, rfl, rfl⟩ := e1
  clear hA0 hval0 hsz0
  have hp := Pure.FnExactEventsDo x0.1 x0.2 x1 hg0.1 hg0.2 hg1
  obtain ⟨k, hk⟩ := hp
  refine (PFnExactEventsDo.laws_FnExactEventsDo.calls k _ _ x0.1 _ _ x0.2 _ _ x1 true W hr0_0 hc0_0 hr0_1 hc0_1 hr1 hc1 hk).mono fun e W' ⟨he, bel0⟩ => ?_
  have bel : Below W.heap.size W W' := bel0
  subst he
  exact ⟨_, rfl, _, _, _, [], _, [], hW', trodAll_mk1 (shut_bool Try.underlying4 _), (trodAll_cons_mk (Below.trod laidOut (by kernel_rfl) (of_decide_eq_true (by kernel_rfl)) k0 bel lt0) (trodAll_cons_mk (Below.trod laidOut (by kernel_rfl) (of_decide_eq_true (by kernel_rfl)) k1 bel lt1) trodAll_mk0)), rfl, bel.frame _, fun h => by cases h⟩
theorem over : Rows.fnExactEventsDoRow.holds Try.pinned (OpenSpec.ofChange Rows.fnExactEventsDoSpec) :=
  OpenClaim.holds_of_wide 9 Try.f9 rfl rfl rfl rfl rfl rfl rfl ⟨rfl, rfl, rfl, rfl, rfl⟩ rfl rfl rfl rfl rfl (by kernel_rfl) Try.func9 (by kernel_rfl)
    (of_decide_eq_true (by kernel_rfl)) (by unfold Func.isWrapper; first | (rw [if_pos (by decide +kernel)]; kernel_rfl) | (rw [if_neg (by decide +kernel)]; exact ⟨rfl, rfl⟩))
    (fun os started H enc _ => lifted os started H enc)
theorem proved : Rows.FnExactEventsDoSaid := over
#print axioms proved
end Go.Proofs.Ytgmpdkefegofhaa.fnExactEventsDo
namespace Go.Proofs.Ytgmpdkefegofhaa
/-- The row, under a short name, for the claim. -/
theorem fnExactEventsDo_holds : Rows.FnExactEventsDoSaid := fnExactEventsDo.proved
end Go.Proofs.Ytgmpdkefegofhaa
