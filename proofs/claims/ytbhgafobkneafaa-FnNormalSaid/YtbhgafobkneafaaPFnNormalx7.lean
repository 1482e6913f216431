-- Written by xprint.py, a program of this session over the kit's print. Not trusted: Lean checks it.
import Derived.Test.YtbhgafobkneafaaPFnNormalx0
import Derived.Test.YtbhgafobkneafaaPFnNormalx1
import Derived.Test.YtbhgafobkneafaaPFnNormalx2
import Derived.Test.YtbhgafobkneafaaPFnNormalx5
import Derived.Test.YtbhgafobkneafaaPFnNormalx6
namespace Go.Proofs.Ytbhgafobkneafaa.PFnNormal
open Go.RowKit Go.Proofs.YtbhgafobkneafaaW.PrintWords Go.Proofs.YtbhgafobkneafaaW.PrintLast Go.Proofs.YtbhgafobkneafaaW.PrintMore
attribute [local go_sem] max2_int min2_int max_two min_two max_three min_three max_four min_four   -- for this text's walks alone
set_option linter.unusedVariables false
set_option linter.unusedSimpArgs false

/-! ### spec_DrawNormal: function 25 -/
def spec_DrawNormal.f (k : Nat) (l0 : List Int) : Option (ByteArray) := (spec_l1New.f k l0).bind fun bt279 => ((spec_l1Once.f bt279.1 bt279.2.1 bt279.2.2 3).bind fun bt283 => (if bt283.1 = true then ((spec_l1Pick.f bt279.1 bt283.2.1 bt283.2.2 (([(⟨#[47]⟩ : ByteArray), (⟨#[]⟩ : ByteArray), (⟨#[47, 47, 97, 47, 47, 98]⟩ : ByteArray), (⟨#[47, 97, 47, 46, 47, 98]⟩ : ByteArray), (⟨#[47, 97, 47, 46, 46, 47, 98]⟩ : ByteArray), (⟨#[47, 46, 46]⟩ : ByteArray), (⟨#[47, 46, 46, 47, 97]⟩ : ByteArray), (⟨#[47, 97, 47, 98, 47, 46, 46, 47, 46, 46, 47, 99]⟩ : ByteArray), (⟨#[97, 47, 98]⟩ : ByteArray), (⟨#[47, 97, 47, 46, 46, 46]⟩ : ByteArray), (⟨#[47, 97, 47, 98, 47, 99, 47, 100, 47, 101, 47, 46, 46]⟩ : ByteArray), (⟨#[47, 97, 47, 98, 47, 99, 47, 100, 47, 101, 47, 46, 46, 47, 46, 46]⟩ : ByteArray), (⟨#[47, 97, 97, 97, 97, 97, 97, 47, 97, 97, 97, 97, 97, 97, 47, 97, 97, 97, 97, 97, 97, 47, 97, 97, 97, 97, 97, 97, 47, 46, 46, 47, 97, 97, 97, 97, 97, 97, 47, 46, 46, 47, 97, 97, 97, 97, 97, 97, 47, 46, 46, 47, 97, 97, 97, 97, 97, 97, 47, 46, 47, 46]⟩ : ByteArray), (⟨#[47, 97, 97, 97, 97, 97, 97, 47, 97, 97, 97, 97, 97, 97, 47, 97, 97, 97, 97, 97, 97, 47, 97, 97, 97, 97, 97, 97, 47, 46, 46, 47, 97, 97, 97, 97, 97, 97, 47, 46, 46, 47, 97, 97, 97, 97, 97, 97, 47, 46, 46, 47, 97, 97, 97, 97, 97, 97, 47, 46]⟩ : ByteArray), (⟨#[47, 65, 47, 46, 46]⟩ : ByteArray)] : List ByteArray))).bind fun bt289 => (some bt289.1)) else ((spec_l2Path.f bt279.1 bt283.2.1 bt283.2.2).bind fun bt292 => (some bt292.1))))
theorem spec_DrawNormal.mono : ∀ a0 k, LeO (spec_DrawNormal.f k a0) (spec_DrawNormal.f (k + 1) a0) := by
  intro a0 k
  unfold spec_DrawNormal.f
  repeat' first
      | (with_reducible exact spec_l1New.mono _ _)
      | (with_reducible exact LeO.refl _)
      | (with_reducible exact LeO.none _)
      | (with_reducible refine LeO.ite ?_ ?_)
      | (with_reducible refine LeO.bind ?_ (fun _ => ?_))
      | exact spec_l1New.mono _ _
      | exact LeO.none _
      | refine LeO.ite ?_ ?_
      | refine LeO.bind ?_ (fun _ => ?_)
set_option maxHeartbeats 8000000 in
set_option maxRecDepth 100000 in
theorem spec_DrawNormal.calls (k : Nat) (A0 : Option Addr) (c0 : Nat) (l0 : List Int) (r : ByteArray) (w : World) (hr0 : Kd.C (Kd.int .u8) w A0 l0.length l0) (hc0 : l0.length ≤ c0) (h : spec_DrawNormal.f k l0 = some r) :
    Calls Try.prog 25 #[.slice A0 l0.length c0] w fun e w' => e = .returned (.string r) ∧ Below w.heap.size w w' := by
  have HR0 := Aside0.mk hr0
  have HC0 := Aside0.mk hc0
  clear hr0 hc0
  have HB := Aside0.mk (Below.refl w.heap.size w)
  have H : ((spec_l1New.f k l0).bind fun bt279 => ((spec_l1Once.f bt279.1 bt279.2.1 bt279.2.2 3).bind fun bt283 => (if bt283.1 = true then ((spec_l1Pick.f bt279.1 bt283.2.1 bt283.2.2 (([(⟨#[47]⟩ : ByteArray), (⟨#[]⟩ : ByteArray), (⟨#[47, 47, 97, 47, 47, 98]⟩ : ByteArray), (⟨#[47, 97, 47, 46, 47, 98]⟩ : ByteArray), (⟨#[47, 97, 47, 46, 46, 47, 98]⟩ : ByteArray), (⟨#[47, 46, 46]⟩ : ByteArray), (⟨#[47, 46, 46, 47, 97]⟩ : ByteArray), (⟨#[47, 97, 47, 98, 47, 46, 46, 47, 46, 46, 47, 99]⟩ : ByteArray), (⟨#[97, 47, 98]⟩ : ByteArray), (⟨#[47, 97, 47, 46, 46, 46]⟩ : ByteArray), (⟨#[47, 97, 47, 98, 47, 99, 47, 100, 47, 101, 47, 46, 46]⟩ : ByteArray), (⟨#[47, 97, 47, 98, 47, 99, 47, 100, 47, 101, 47, 46, 46, 47, 46, 46]⟩ : ByteArray), (⟨#[47, 97, 97, 97, 97, 97, 97, 47, 97, 97, 97, 97, 97, 97, 47, 97, 97, 97, 97, 97, 97, 47, 97, 97, 97, 97, 97, 97, 47, 46, 46, 47, 97, 97, 97, 97, 97, 97, 47, 46, 46, 47, 97, 97, 97, 97, 97, 97, 47, 46, 46, 47, 97, 97, 97, 97, 97, 97, 47, 46, 47, 46]⟩ : ByteArray), (⟨#[47, 97, 97, 97, 97, 97, 97, 47, 97, 97, 97, 97, 97, 97, 47, 97, 97, 97, 97, 97, 97, 47, 97, 97, 97, 97, 97, 97, 47, 46, 46, 47, 97, 97, 97, 97, 97, 97, 47, 46, 46, 47, 97, 97, 97, 97, 97, 97, 47, 46, 46, 47, 97, 97, 97, 97, 97, 97, 47, 46]⟩ : ByteArray), (⟨#[47, 65, 47, 46, 46]⟩ : ByteArray)] : List ByteArray))).bind fun bt289 => (some bt289.1)) else ((spec_l2Path.f bt279.1 bt283.2.1 bt283.2.2).bind fun bt292 => (some bt292.1))))) = some r := h
  clear h
  replace H := Option.bind_eq_some_iff.mp H
  obtain ⟨⟨t279, t280, t281⟩, A20, H⟩ := H
  replace H : ((spec_l1Once.f t279 t280 t281 3).bind fun bt283 => (if bt283.1 = true then ((spec_l1Pick.f t279 bt283.2.1 bt283.2.2 (([(⟨#[47]⟩ : ByteArray), (⟨#[]⟩ : ByteArray), (⟨#[47, 47, 97, 47, 47, 98]⟩ : ByteArray), (⟨#[47, 97, 47, 46, 47, 98]⟩ : ByteArray), (⟨#[47, 97, 47, 46, 46, 47, 98]⟩ : ByteArray), (⟨#[47, 46, 46]⟩ : ByteArray), (⟨#[47, 46, 46, 47, 97]⟩ : ByteArray), (⟨#[47, 97, 47, 98, 47, 46, 46, 47, 46, 46, 47, 99]⟩ : ByteArray), (⟨#[97, 47, 98]⟩ : ByteArray), (⟨#[47, 97, 47, 46, 46, 46]⟩ : ByteArray), (⟨#[47, 97, 47, 98, 47, 99, 47, 100, 47, 101, 47, 46, 46]⟩ : ByteArray), (⟨#[47, 97, 47, 98, 47, 99, 47, 100, 47, 101, 47, 46, 46, 47, 46, 46]⟩ : ByteArray), (⟨#[47, 97, 97, 97, 97, 97, 97, 47, 97, 97, 97, 97, 97, 97, 47, 97, 97, 97, 97, 97, 97, 47, 97, 97, 97, 97, 97, 97, 47, 46, 46, 47, 97, 97, 97, 97, 97, 97, 47, 46, 46, 47, 97, 97, 97, 97, 97, 97, 47, 46, 46, 47, 97, 97, 97, 97, 97, 97, 47, 46, 47, 46]⟩ : ByteArray), (⟨#[47, 97, 97, 97, 97, 97, 97, 47, 97, 97, 97, 97, 97, 97, 47, 97, 97, 97, 97, 97, 97, 47, 97, 97, 97, 97, 97, 97, 47, 46, 46, 47, 97, 97, 97, 97, 97, 97, 47, 46, 46, 47, 97, 97, 97, 97, 97, 97, 47, 46, 46, 47, 97, 97, 97, 97, 97, 97, 47, 46]⟩ : ByteArray), (⟨#[47, 65, 47, 46, 46]⟩ : ByteArray)] : List ByteArray))).bind fun bt289 => (some bt289.1)) else ((spec_l2Path.f t279 bt283.2.1 bt283.2.2).bind fun bt292 => (some bt292.1)))) = some r := H
  have A2 := Aside0.mk A20
  clear A20
  replace H := Option.bind_eq_some_iff.mp H
  obtain ⟨⟨t283, t284, t285⟩, A30, H⟩ := H
  replace H : (if t283 = true then ((spec_l1Pick.f t279 t284 t285 (([(⟨#[47]⟩ : ByteArray), (⟨#[]⟩ : ByteArray), (⟨#[47, 47, 97, 47, 47, 98]⟩ : ByteArray), (⟨#[47, 97, 47, 46, 47, 98]⟩ : ByteArray), (⟨#[47, 97, 47, 46, 46, 47, 98]⟩ : ByteArray), (⟨#[47, 46, 46]⟩ : ByteArray), (⟨#[47, 46, 46, 47, 97]⟩ : ByteArray), (⟨#[47, 97, 47, 98, 47, 46, 46, 47, 46, 46, 47, 99]⟩ : ByteArray), (⟨#[97, 47, 98]⟩ : ByteArray), (⟨#[47, 97, 47, 46, 46, 46]⟩ : ByteArray), (⟨#[47, 97, 47, 98, 47, 99, 47, 100, 47, 101, 47, 46, 46]⟩ : ByteArray), (⟨#[47, 97, 47, 98, 47, 99, 47, 100, 47, 101, 47, 46, 46, 47, 46, 46]⟩ : ByteArray), (⟨#[47, 97, 97, 97, 97, 97, 97, 47, 97, 97, 97, 97, 97, 97, 47, 97, 97, 97, 97, 97, 97, 47, 97, 97, 97, 97, 97, 97, 47, 46, 46, 47, 97, 97, 97, 97, 97, 97, 47, 46, 46, 47, 97, 97, 97, 97, 97, 97, 47, 46, 46, 47, 97, 97, 97, 97, 97, 97, 47, 46, 47, 46]⟩ : ByteArray), (⟨#[47, 97, 97, 97, 97, 97, 97, 47, 97, 97, 97, 97, 97, 97, 47, 97, 97, 97, 97, 97, 97, 47, 97, 97, 97, 97, 97, 97, 47, 46, 46, 47, 97, 97, 97, 97, 97, 97, 47, 46, 46, 47, 97, 97, 97, 97, 97, 97, 47, 46, 46, 47, 97, 97, 97, 97, 97, 97, 47, 46]⟩ : ByteArray), (⟨#[47, 65, 47, 46, 46]⟩ : ByteArray)] : List ByteArray))).bind fun bt289 => (some bt289.1)) else ((spec_l2Path.f t279 t284 t285).bind fun bt292 => (some bt292.1))) = some r := H
  have A3 := Aside0.mk A30
  clear A30
  by_cases c4 : t283 = true
  · subst c4
    have H1 : ((spec_l1Pick.f t279 t284 t285 (([(⟨#[47]⟩ : ByteArray), (⟨#[]⟩ : ByteArray), (⟨#[47, 47, 97, 47, 47, 98]⟩ : ByteArray), (⟨#[47, 97, 47, 46, 47, 98]⟩ : ByteArray), (⟨#[47, 97, 47, 46, 46, 47, 98]⟩ : ByteArray), (⟨#[47, 46, 46]⟩ : ByteArray), (⟨#[47, 46, 46, 47, 97]⟩ : ByteArray), (⟨#[47, 97, 47, 98, 47, 46, 46, 47, 46, 46, 47, 99]⟩ : ByteArray), (⟨#[97, 47, 98]⟩ : ByteArray), (⟨#[47, 97, 47, 46, 46, 46]⟩ : ByteArray), (⟨#[47, 97, 47, 98, 47, 99, 47, 100, 47, 101, 47, 46, 46]⟩ : ByteArray), (⟨#[47, 97, 47, 98, 47, 99, 47, 100, 47, 101, 47, 46, 46, 47, 46, 46]⟩ : ByteArray), (⟨#[47, 97, 97, 97, 97, 97, 97, 47, 97, 97, 97, 97, 97, 97, 47, 97, 97, 97, 97, 97, 97, 47, 97, 97, 97, 97, 97, 97, 47, 46, 46, 47, 97, 97, 97, 97, 97, 97, 47, 46, 46, 47, 97, 97, 97, 97, 97, 97, 47, 46, 46, 47, 97, 97, 97, 97, 97, 97, 47, 46, 47, 46]⟩ : ByteArray), (⟨#[47, 97, 97, 97, 97, 97, 97, 47, 97, 97, 97, 97, 97, 97, 47, 97, 97, 97, 97, 97, 97, 47, 97, 97, 97, 97, 97, 97, 47, 46, 46, 47, 97, 97, 97, 97, 97, 97, 47, 46, 46, 47, 97, 97, 97, 97, 97, 97, 47, 46, 46, 47, 97, 97, 97, 97, 97, 97, 47, 46]⟩ : ByteArray), (⟨#[47, 65, 47, 46, 46]⟩ : ByteArray)] : List ByteArray))).bind fun bt289 => (some bt289.1)) = some r := by rw [if_pos rfl] at H; exact H
    clear H
    have H := H1
    clear H1
    obtain ⟨y286, hy286⟩ : ∃ y_ : List ByteArray, y_ = (([(⟨#[47]⟩ : ByteArray), (⟨#[]⟩ : ByteArray), (⟨#[47, 47, 97, 47, 47, 98]⟩ : ByteArray), (⟨#[47, 97, 47, 46, 47, 98]⟩ : ByteArray), (⟨#[47, 97, 47, 46, 46, 47, 98]⟩ : ByteArray), (⟨#[47, 46, 46]⟩ : ByteArray), (⟨#[47, 46, 46, 47, 97]⟩ : ByteArray), (⟨#[47, 97, 47, 98, 47, 46, 46, 47, 46, 46, 47, 99]⟩ : ByteArray), (⟨#[97, 47, 98]⟩ : ByteArray), (⟨#[47, 97, 47, 46, 46, 46]⟩ : ByteArray), (⟨#[47, 97, 47, 98, 47, 99, 47, 100, 47, 101, 47, 46, 46]⟩ : ByteArray), (⟨#[47, 97, 47, 98, 47, 99, 47, 100, 47, 101, 47, 46, 46, 47, 46, 46]⟩ : ByteArray), (⟨#[47, 97, 97, 97, 97, 97, 97, 47, 97, 97, 97, 97, 97, 97, 47, 97, 97, 97, 97, 97, 97, 47, 97, 97, 97, 97, 97, 97, 47, 46, 46, 47, 97, 97, 97, 97, 97, 97, 47, 46, 46, 47, 97, 97, 97, 97, 97, 97, 47, 46, 46, 47, 97, 97, 97, 97, 97, 97, 47, 46, 47, 46]⟩ : ByteArray), (⟨#[47, 97, 97, 97, 97, 97, 97, 47, 97, 97, 97, 97, 97, 97, 47, 97, 97, 97, 97, 97, 97, 47, 97, 97, 97, 97, 97, 97, 47, 46, 46, 47, 97, 97, 97, 97, 97, 97, 47, 46, 46, 47, 97, 97, 97, 97, 97, 97, 47, 46, 46, 47, 97, 97, 97, 97, 97, 97, 47, 46]⟩ : ByteArray), (⟨#[47, 65, 47, 46, 46]⟩ : ByteArray)] : List ByteArray)) := ⟨_, rfl⟩
    replace H : ((spec_l1Pick.f t279 t284 t285 y286).bind fun bt289 => (some bt289.1)) = some r := by first | (rw [hy286]; with_reducible exact H) | (have H2_ := (Option.bind_some _ _).symm.trans H; rw [hy286]; with_reducible exact H2_) | (have H2_ := (Option.bind_some _ _).symm.trans H; with_reducible exact H2_) | with_reducible exact H | (rw [hy286]; exact H) | exact H
    have Ny286 := Aside0.mk hy286
    clear hy286
    replace H := Option.bind_eq_some_iff.mp H
    obtain ⟨⟨t289, t290, t291⟩, A50, H⟩ := H
    replace H : (some t289) = some r := H
    have A5 := Aside0.mk A50
    clear A50
    obtain rfl := Option.some.inj H
    go_enter Try.func25, Try.ntmps25
    go_wp2_with (first | ((with_reducible refine gate_callee (f := 40) rfl ?_); refine goesL_ (some 5) rfl rfl Try.func40 (by kernel_rfl) rfl #[.slice A0 l0.length c0] rfl (by (try simp only [List.map_toArray, List.map_cons, List.map_nil]); first | done | rfl | (simp only [List.length_drop, List.length_take]; rfl)) ?_; (with_reducible refine (spec_l1New.calls k _ _ l0 t279 t280 t281 w _ ?side1 ?side2 ?side3 A2.out).mono ?_); (case side1 => repeat (first | (with_reducible first | exact HB.out | apply below_alloc | apply pw_below_drewN | apply below_drew1) | exact HB.out)); (case side2 => exact HR0.out); (case side3 => exact HC0.out); rintro e w6 ⟨g282, rfl, hi, hb, hb2⟩; refine ⟨_, rfl, ?_⟩; have n0_ := Aside0.mk (hb); have n1_ := Aside0.mk (hi); clear HB; have HB := n0_; have HI282 := n1_; clear n0_ n1_; (try clear hb); (try clear hb2); (try clear hk); (try clear hi)) | ((with_reducible refine gate_callee (f := 42) rfl ?_); refine goesL_ (some 7) rfl rfl Try.func42 (by kernel_rfl) rfl #[.pointer (some ⟨g282, 0, none⟩), .int .i64 3] rfl (by (try simp only [List.map_toArray, List.map_cons, List.map_nil]); first | done | rfl | (simp only [List.length_drop, List.length_take]; rfl)) ?_; (with_reducible refine (spec_l1Once.calls g282 t279 t280 t281 3 true t284 t285 w _ ?side1 ?side2 A3.out).mono ?_); (case side1 => repeat (first | (with_reducible first | exact HI282.out | apply IsS62.alloc | apply IsS62.drewN | apply IsS62.drew | apply IsS62.set_1 | apply IsS62.set_2) | exact HI282.out)); (case side2 => repeat (first | (with_reducible first | exact HB.out | apply below_alloc | apply pw_below_drewN | apply below_drew1 | refine below_set ?_ (IsS62.ge HI282.out)) | exact HB.out)); rintro e w7 ⟨rfl, hi, hb, hk⟩; refine ⟨_, rfl, ?_⟩; have n0_ := Aside0.mk (hb); have n1_ := Aside0.mk (hi); clear HB; clear HI282; have HB := n0_; have HI282 := n1_; clear n0_ n1_; (try clear hb); (try clear hb2); (try clear hk); (try clear hi)) | ((with_reducible refine gate_dst (N := 9) rfl ?_); refine Kd.R_lit Kd.string _ 9 ?hg (N := 9) ?hd (xs := ([(⟨#[47]⟩ : ByteArray), (⟨#[]⟩ : ByteArray), (⟨#[47, 47, 97, 47, 47, 98]⟩ : ByteArray), (⟨#[47, 97, 47, 46, 47, 98]⟩ : ByteArray), (⟨#[47, 97, 47, 46, 46, 47, 98]⟩ : ByteArray), (⟨#[47, 46, 46]⟩ : ByteArray), (⟨#[47, 46, 46, 47, 97]⟩ : ByteArray), (⟨#[47, 97, 47, 98, 47, 46, 46, 47, 46, 46, 47, 99]⟩ : ByteArray), (⟨#[97, 47, 98]⟩ : ByteArray), (⟨#[47, 97, 47, 46, 46, 46]⟩ : ByteArray), (⟨#[47, 97, 47, 98, 47, 99, 47, 100, 47, 101, 47, 46, 46]⟩ : ByteArray), (⟨#[47, 97, 47, 98, 47, 99, 47, 100, 47, 101, 47, 46, 46, 47, 46, 46]⟩ : ByteArray), (⟨#[47, 97, 97, 97, 97, 97, 97, 47, 97, 97, 97, 97, 97, 97, 47, 97, 97, 97, 97, 97, 97, 47, 97, 97, 97, 97, 97, 97, 47, 46, 46, 47, 97, 97, 97, 97, 97, 97, 47, 46, 46, 47, 97, 97, 97, 97, 97, 97, 47, 46, 46, 47, 97, 97, 97, 97, 97, 97, 47, 46, 47, 46]⟩ : ByteArray), (⟨#[47, 97, 97, 97, 97, 97, 97, 47, 97, 97, 97, 97, 97, 97, 47, 97, 97, 97, 97, 97, 97, 47, 97, 97, 97, 97, 97, 97, 47, 46, 46, 47, 97, 97, 97, 97, 97, 97, 47, 46, 46, 47, 97, 97, 97, 97, 97, 97, 47, 46, 46, 47, 97, 97, 97, 97, 97, 97, 47, 46]⟩ : ByteArray), (⟨#[47, 65, 47, 46, 46]⟩ : ByteArray)] : List ByteArray)) (inner := [.string (⟨#[47]⟩ : ByteArray), .string (⟨#[]⟩ : ByteArray), .string (⟨#[47, 47, 97, 47, 47, 98]⟩ : ByteArray), .string (⟨#[47, 97, 47, 46, 47, 98]⟩ : ByteArray), .string (⟨#[47, 97, 47, 46, 46, 47, 98]⟩ : ByteArray), .string (⟨#[47, 46, 46]⟩ : ByteArray), .string (⟨#[47, 46, 46, 47, 97]⟩ : ByteArray), .string (⟨#[47, 97, 47, 98, 47, 46, 46, 47, 46, 46, 47, 99]⟩ : ByteArray), .string (⟨#[97, 47, 98]⟩ : ByteArray), .string (⟨#[47, 97, 47, 46, 46, 46]⟩ : ByteArray), .string (⟨#[47, 97, 47, 98, 47, 99, 47, 100, 47, 101, 47, 46, 46]⟩ : ByteArray), .string (⟨#[47, 97, 47, 98, 47, 99, 47, 100, 47, 101, 47, 46, 46, 47, 46, 46]⟩ : ByteArray), .string (⟨#[47, 97, 97, 97, 97, 97, 97, 47, 97, 97, 97, 97, 97, 97, 47, 97, 97, 97, 97, 97, 97, 47, 97, 97, 97, 97, 97, 97, 47, 46, 46, 47, 97, 97, 97, 97, 97, 97, 47, 46, 46, 47, 97, 97, 97, 97, 97, 97, 47, 46, 46, 47, 97, 97, 97, 97, 97, 97, 47, 46, 47, 46]⟩ : ByteArray), .string (⟨#[47, 97, 97, 97, 97, 97, 97, 47, 97, 97, 97, 97, 97, 97, 47, 97, 97, 97, 97, 97, 97, 47, 97, 97, 97, 97, 97, 97, 47, 46, 46, 47, 97, 97, 97, 97, 97, 97, 47, 46, 46, 47, 97, 97, 97, 97, 97, 97, 47, 46, 46, 47, 97, 97, 97, 97, 97, 97, 47, 46]⟩ : ByteArray), .string (⟨#[47, 65, 47, 46, 46]⟩ : ByteArray)]) (ok := fun _ => True) (okp := fun _ => True) ?hr ?hp (fun _ hk => hk) trivial (Below.refl _ _) (Nat.le_refl _) (by simp) ?_; (case hd => rfl); (case hg => rfl); (case hr => first | (go_simp; done) | (go_simp; rfl)); (case hp => exact (Reps.one (show Kd.M Kd.string _ _ _ (⟨#[47]⟩ : ByteArray) [.string (⟨#[47]⟩ : ByteArray)] from rfl) (Reps.one (show Kd.M Kd.string _ _ _ (⟨#[]⟩ : ByteArray) [.string (⟨#[]⟩ : ByteArray)] from rfl) (Reps.one (show Kd.M Kd.string _ _ _ (⟨#[47, 47, 97, 47, 47, 98]⟩ : ByteArray) [.string (⟨#[47, 47, 97, 47, 47, 98]⟩ : ByteArray)] from rfl) (Reps.one (show Kd.M Kd.string _ _ _ (⟨#[47, 97, 47, 46, 47, 98]⟩ : ByteArray) [.string (⟨#[47, 97, 47, 46, 47, 98]⟩ : ByteArray)] from rfl) (Reps.one (show Kd.M Kd.string _ _ _ (⟨#[47, 97, 47, 46, 46, 47, 98]⟩ : ByteArray) [.string (⟨#[47, 97, 47, 46, 46, 47, 98]⟩ : ByteArray)] from rfl) (Reps.one (show Kd.M Kd.string _ _ _ (⟨#[47, 46, 46]⟩ : ByteArray) [.string (⟨#[47, 46, 46]⟩ : ByteArray)] from rfl) (Reps.one (show Kd.M Kd.string _ _ _ (⟨#[47, 46, 46, 47, 97]⟩ : ByteArray) [.string (⟨#[47, 46, 46, 47, 97]⟩ : ByteArray)] from rfl) (Reps.one (show Kd.M Kd.string _ _ _ (⟨#[47, 97, 47, 98, 47, 46, 46, 47, 46, 46, 47, 99]⟩ : ByteArray) [.string (⟨#[47, 97, 47, 98, 47, 46, 46, 47, 46, 46, 47, 99]⟩ : ByteArray)] from rfl) (Reps.one (show Kd.M Kd.string _ _ _ (⟨#[97, 47, 98]⟩ : ByteArray) [.string (⟨#[97, 47, 98]⟩ : ByteArray)] from rfl) (Reps.one (show Kd.M Kd.string _ _ _ (⟨#[47, 97, 47, 46, 46, 46]⟩ : ByteArray) [.string (⟨#[47, 97, 47, 46, 46, 46]⟩ : ByteArray)] from rfl) (Reps.one (show Kd.M Kd.string _ _ _ (⟨#[47, 97, 47, 98, 47, 99, 47, 100, 47, 101, 47, 46, 46]⟩ : ByteArray) [.string (⟨#[47, 97, 47, 98, 47, 99, 47, 100, 47, 101, 47, 46, 46]⟩ : ByteArray)] from rfl) (Reps.one (show Kd.M Kd.string _ _ _ (⟨#[47, 97, 47, 98, 47, 99, 47, 100, 47, 101, 47, 46, 46, 47, 46, 46]⟩ : ByteArray) [.string (⟨#[47, 97, 47, 98, 47, 99, 47, 100, 47, 101, 47, 46, 46, 47, 46, 46]⟩ : ByteArray)] from rfl) (Reps.one (show Kd.M Kd.string _ _ _ (⟨#[47, 97, 97, 97, 97, 97, 97, 47, 97, 97, 97, 97, 97, 97, 47, 97, 97, 97, 97, 97, 97, 47, 97, 97, 97, 97, 97, 97, 47, 46, 46, 47, 97, 97, 97, 97, 97, 97, 47, 46, 46, 47, 97, 97, 97, 97, 97, 97, 47, 46, 46, 47, 97, 97, 97, 97, 97, 97, 47, 46, 47, 46]⟩ : ByteArray) [.string (⟨#[47, 97, 97, 97, 97, 97, 97, 47, 97, 97, 97, 97, 97, 97, 47, 97, 97, 97, 97, 97, 97, 47, 97, 97, 97, 97, 97, 97, 47, 46, 46, 47, 97, 97, 97, 97, 97, 97, 47, 46, 46, 47, 97, 97, 97, 97, 97, 97, 47, 46, 46, 47, 97, 97, 97, 97, 97, 97, 47, 46, 47, 46]⟩ : ByteArray)] from rfl) (Reps.one (show Kd.M Kd.string _ _ _ (⟨#[47, 97, 97, 97, 97, 97, 97, 47, 97, 97, 97, 97, 97, 97, 47, 97, 97, 97, 97, 97, 97, 47, 97, 97, 97, 97, 97, 97, 47, 46, 46, 47, 97, 97, 97, 97, 97, 97, 47, 46, 46, 47, 97, 97, 97, 97, 97, 97, 47, 46, 46, 47, 97, 97, 97, 97, 97, 97, 47, 46]⟩ : ByteArray) [.string (⟨#[47, 97, 97, 97, 97, 97, 97, 47, 97, 97, 97, 97, 97, 97, 47, 97, 97, 97, 97, 97, 97, 47, 97, 97, 97, 97, 97, 97, 47, 46, 46, 47, 97, 97, 97, 97, 97, 97, 47, 46, 46, 47, 97, 97, 97, 97, 97, 97, 47, 46, 46, 47, 97, 97, 97, 97, 97, 97, 47, 46]⟩ : ByteArray)] from rfl) (Reps.one (show Kd.M Kd.string _ _ _ (⟨#[47, 65, 47, 46, 46]⟩ : ByteArray) [.string (⟨#[47, 65, 47, 46, 46]⟩ : ByteArray)] from rfl) (Reps.none _ _))))))))))))))))); intro v287 w8 ho9 hb hg_ hnew_; clear hg_ hnew_; (first | rw [← Ny286.out] at ho9 | (simp only [Int.reduceToNat] at ho9; rw [← Ny286.out] at ho9)); have n0_ := Aside0.mk (Kd.R_lower ho9 (below_size (by repeat (first | (with_reducible first | exact HB.out | apply below_alloc | apply pw_below_drewN | apply below_drew1 | refine below_set ?_ (IsS62.ge HI282.out)) | exact HB.out)))); have n1_ := Aside0.mk (IsS62.below (by repeat (first | (with_reducible first | exact HI282.out | apply IsS62.alloc | apply IsS62.drewN | apply IsS62.drew | apply IsS62.set_1 | apply IsS62.set_2) | exact HI282.out)) hb); have n2_ := Aside0.mk (below_step (by repeat (first | (with_reducible first | exact HB.out | apply below_alloc | apply pw_below_drewN | apply below_drew1 | refine below_set ?_ (IsS62.ge HI282.out)) | exact HB.out)) hb); clear HI282; clear HB; have HO288 := n0_; have HI282 := n1_; have HB := n2_; clear n0_ n1_ n2_; clear hb ho9; obtain ⟨Ao10, co10, eo10⟩ := Kd.R_slice HO288.out; subst eo10) | ((with_reducible refine gate_callee (f := 45) rfl ?_); refine goesL_ (some 10) rfl rfl Try.func45 (by kernel_rfl) rfl #[.pointer (some ⟨g282, 0, none⟩), .slice Ao10 y286.length co10] rfl (by (try simp only [List.map_toArray, List.map_cons, List.map_nil]); first | done | rfl | (simp only [List.length_drop, List.length_take]; rfl)) ?_; (with_reducible refine (spec_l1Pick.calls g282 t279 t284 t285 _ _ y286 t289 t290 t291 w _ ?side1 ?side2 ?side3 ?side4 ?side5 A5.out).mono ?_); (case side1 => repeat (first | (with_reducible first | exact HI282.out | apply IsS62.alloc | apply IsS62.drewN | apply IsS62.drew | apply IsS62.set_1 | apply IsS62.set_2) | exact HI282.out)); (case side2 => repeat (first | (with_reducible first | exact HB.out | apply below_alloc | apply pw_below_drewN | apply below_drew1 | refine below_set ?_ (IsS62.ge HI282.out)) | exact HB.out)); (case side3 => repeat (first | exact (Kd.R_reads' HO288.out).2.2 | (with_reducible refine Kd.C_alloc ?_ _) | (with_reducible refine Kd.C_drewN ?_ _) | (with_reducible refine Kd.C_drew ?_))); (case side4 => exact (Kd.R_reads' HO288.out).2.1); (case side5 => exact far_slice (IsS62.own_ne HI282.out HO288.out (by decide))); rintro e w11 ⟨rfl, hi, hb, hk⟩; refine ⟨_, rfl, ?_⟩; have n0_ := Aside0.mk (Kd.R_mono (Kd.R_keep (IsS62.apart (show IsS62 w _ g282 t279 t284 t285 from by repeat (first | (with_reducible first | exact HI282.out | apply IsS62.alloc | apply IsS62.drewN | apply IsS62.drew | apply IsS62.set_1 | apply IsS62.set_2) | exact HI282.out)) (by (with_reducible repeat (first | apply Kd.R_alloc | apply Kd.R_drewN | apply Kd.R_drew)); exact HO288.out) (by decide)) hk (fun _ h => h.2)) (fun _ h => h.1)); have n1_ := Aside0.mk (hb); have n2_ := Aside0.mk (hi); clear HO288; clear HB; clear HI282; have HO288 := n0_; have HB := n1_; have HI282 := n2_; clear n0_ n1_ n2_; (try clear hb); (try clear hb2); (try clear hk); (try clear hi)))
    go_ret
    exact ⟨by first | rfl | (simp [errW_none, errW_some] <;> rfl) | (simp [*, errW_none, errW_some] <;> rfl), by repeat (first | (with_reducible first | exact HB.out | apply below_alloc | apply pw_below_drewN | apply below_drew1 | refine below_set ?_ (IsS62.ge HI282.out)) | exact HB.out)⟩
  · replace c4 := Bool.eq_false_iff.mpr c4
    subst c4
    have H1 : ((spec_l2Path.f t279 t284 t285).bind fun bt292 => (some bt292.1)) = some r := by rw [if_neg (show ¬ (false = true) by decide)] at H; exact H
    clear H
    have H := H1
    clear H1
    replace H := Option.bind_eq_some_iff.mp H
    obtain ⟨⟨t292, t293, t294⟩, A120, H⟩ := H
    replace H : (some t292) = some r := H
    have A12 := Aside0.mk A120
    clear A120
    obtain rfl := Option.some.inj H
    go_enter Try.func25, Try.ntmps25
    go_wp2_with (first | ((with_reducible refine gate_callee (f := 40) rfl ?_); refine goesL_ (some 5) rfl rfl Try.func40 (by kernel_rfl) rfl #[.slice A0 l0.length c0] rfl (by (try simp only [List.map_toArray, List.map_cons, List.map_nil]); first | done | rfl | (simp only [List.length_drop, List.length_take]; rfl)) ?_; (with_reducible refine (spec_l1New.calls k _ _ l0 t279 t280 t281 w _ ?side1 ?side2 ?side3 A2.out).mono ?_); (case side1 => repeat (first | (with_reducible first | exact HB.out | apply below_alloc | apply pw_below_drewN | apply below_drew1) | exact HB.out)); (case side2 => exact HR0.out); (case side3 => exact HC0.out); rintro e w13 ⟨g282, rfl, hi, hb, hb2⟩; refine ⟨_, rfl, ?_⟩; have n0_ := Aside0.mk (hb); have n1_ := Aside0.mk (hi); clear HB; have HB := n0_; have HI282 := n1_; clear n0_ n1_; (try clear hb); (try clear hb2); (try clear hk); (try clear hi)) | ((with_reducible refine gate_callee (f := 42) rfl ?_); refine goesL_ (some 7) rfl rfl Try.func42 (by kernel_rfl) rfl #[.pointer (some ⟨g282, 0, none⟩), .int .i64 3] rfl (by (try simp only [List.map_toArray, List.map_cons, List.map_nil]); first | done | rfl | (simp only [List.length_drop, List.length_take]; rfl)) ?_; (with_reducible refine (spec_l1Once.calls g282 t279 t280 t281 3 false t284 t285 w _ ?side1 ?side2 A3.out).mono ?_); (case side1 => repeat (first | (with_reducible first | exact HI282.out | apply IsS62.alloc | apply IsS62.drewN | apply IsS62.drew | apply IsS62.set_1 | apply IsS62.set_2) | exact HI282.out)); (case side2 => repeat (first | (with_reducible first | exact HB.out | apply below_alloc | apply pw_below_drewN | apply below_drew1 | refine below_set ?_ (IsS62.ge HI282.out)) | exact HB.out)); rintro e w14 ⟨rfl, hi, hb, hk⟩; refine ⟨_, rfl, ?_⟩; have n0_ := Aside0.mk (hb); have n1_ := Aside0.mk (hi); clear HB; clear HI282; have HB := n0_; have HI282 := n1_; clear n0_ n1_; (try clear hb); (try clear hb2); (try clear hk); (try clear hi)) | ((with_reducible refine gate_callee (f := 41) rfl ?_); refine goesL_ (some 12) rfl rfl Try.func41 (by kernel_rfl) rfl #[.pointer (some ⟨g282, 0, none⟩)] rfl (by (try simp only [List.map_toArray, List.map_cons, List.map_nil]); first | done | rfl | (simp only [List.length_drop, List.length_take]; rfl)) ?_; (with_reducible refine (spec_l2Path.calls g282 t279 t284 t285 t292 t293 t294 w _ ?side1 ?side2 A12.out).mono ?_); (case side1 => repeat (first | (with_reducible first | exact HI282.out | apply IsS62.alloc | apply IsS62.drewN | apply IsS62.drew | apply IsS62.set_1 | apply IsS62.set_2) | exact HI282.out)); (case side2 => repeat (first | (with_reducible first | exact HB.out | apply below_alloc | apply pw_below_drewN | apply below_drew1 | refine below_set ?_ (IsS62.ge HI282.out)) | exact HB.out)); rintro e w15 ⟨rfl, hi, hb, hk⟩; refine ⟨_, rfl, ?_⟩; have n0_ := Aside0.mk (hb); have n1_ := Aside0.mk (hi); clear HB; clear HI282; have HB := n0_; have HI282 := n1_; clear n0_ n1_; (try clear hb); (try clear hb2); (try clear hk); (try clear hi)))
    go_ret
    exact ⟨by first | rfl | (simp [errW_none, errW_some] <;> rfl) | (simp [*, errW_none, errW_some] <;> rfl), by repeat (first | (with_reducible first | exact HB.out | apply below_alloc | apply pw_below_drewN | apply below_drew1 | refine below_set ?_ (IsS62.ge HI282.out)) | exact HB.out)⟩

/-! ### impl_PathOk: function 26 -/
def impl_PathOk.f (k : Nat) (a0 : ByteArray) : Option (Bool) := (impl_readPath.f k a0).bind fun bt295 => (some bt295.2)
theorem impl_PathOk.mono : ∀ a0 k, LeO (impl_PathOk.f k a0) (impl_PathOk.f (k + 1) a0) := by
  intro a0 k
  unfold impl_PathOk.f
  repeat' first
      | (with_reducible exact impl_readPath.mono _ _)
      | (with_reducible exact LeO.refl _)
      | (with_reducible exact LeO.none _)
      | (with_reducible refine LeO.ite ?_ ?_)
      | (with_reducible refine LeO.bind ?_ (fun _ => ?_))
      | exact impl_readPath.mono _ _
      | exact LeO.none _
      | refine LeO.ite ?_ ?_
      | refine LeO.bind ?_ (fun _ => ?_)
set_option maxHeartbeats 8000000 in
set_option maxRecDepth 100000 in
theorem impl_PathOk.calls (k : Nat) (a0 : ByteArray) (r : Bool) (w : World) (h : impl_PathOk.f k a0 = some r) :
    Calls Try.prog 26 #[.string a0] w fun e w' => e = .returned (.bool r) ∧ Below w.heap.size w w' := by
  have HB := Aside0.mk (Below.refl w.heap.size w)
  have H : ((impl_readPath.f k a0).bind fun bt295 => (some bt295.2)) = some r := h
  clear h
  replace H := Option.bind_eq_some_iff.mp H
  obtain ⟨⟨t295, t296⟩, A20, H⟩ := H
  replace H : (some t296) = some r := H
  have A2 := Aside0.mk A20
  clear A20
  obtain rfl := Option.some.inj H
  go_enter Try.func26, Try.ntmps26
  go_wp2_with (first | ((with_reducible refine gate_callee (f := 34) rfl ?_); refine goesL_ (some 7) rfl rfl Try.func34 (by kernel_rfl) rfl #[.string a0] rfl (by (try simp only [List.map_toArray, List.map_cons, List.map_nil]); first | done | rfl | (simp only [List.length_drop, List.length_take]; rfl)) ?_; (with_reducible refine (impl_readPath.calls k a0 t295 t296 _ A2.out).mono ?_); rintro e w3 ⟨v297, rfl, ho0, hb⟩; refine ⟨_, rfl, ?_⟩; have n0_ := Aside0.mk (Kd.Q_lower ho0 (below_size (by repeat (first | (with_reducible first | exact HB.out | apply below_alloc | apply pw_below_drewN | apply below_drew1) | exact HB.out)))); have n1_ := Aside0.mk (below_step (by repeat (first | (with_reducible first | exact HB.out | apply below_alloc | apply pw_below_drewN | apply below_drew1) | exact HB.out)) hb); clear HB; have HO298 := n0_; have HB := n1_; clear n0_ n1_; (try clear hb); (try clear hb2); (try clear hk); (try clear hi); (try clear ho0)))
  go_ret
  exact ⟨by first | rfl | (simp [errW_none, errW_some] <;> rfl) | (simp [*, errW_none, errW_some] <;> rfl), by repeat (first | (with_reducible first | exact HB.out | apply below_alloc | apply pw_below_drewN | apply below_drew1) | exact HB.out)⟩

/-! ### impl_Names: function 27 -/
def impl_Names.f (k : Nat) (a0 : ByteArray) : Option (List ByteArray) := (impl_readPath.f k a0).bind fun bt299 => (some bt299.1)
theorem impl_Names.mono : ∀ a0 k, LeO (impl_Names.f k a0) (impl_Names.f (k + 1) a0) := by
  intro a0 k
  unfold impl_Names.f
  repeat' first
      | (with_reducible exact impl_readPath.mono _ _)
      | (with_reducible exact LeO.refl _)
      | (with_reducible exact LeO.none _)
      | (with_reducible refine LeO.ite ?_ ?_)
      | (with_reducible refine LeO.bind ?_ (fun _ => ?_))
      | exact impl_readPath.mono _ _
      | exact LeO.none _
      | refine LeO.ite ?_ ?_
      | refine LeO.bind ?_ (fun _ => ?_)
set_option maxHeartbeats 8000000 in
set_option maxRecDepth 100000 in
theorem impl_Names.calls (k : Nat) (a0 : ByteArray) (r : List ByteArray) (w : World) (h : impl_Names.f k a0 = some r) :
    Calls Try.prog 27 #[.string a0] w fun e w' => ∃ v0_ : Value, e = .returned (v0_) ∧ Kd.Q Kd.string 9 w' w.heap.size (fun _ => True) v0_ r ∧ Below w.heap.size w w' := by
  have HB := Aside0.mk (Below.refl w.heap.size w)
  have H : ((impl_readPath.f k a0).bind fun bt299 => (some bt299.1)) = some r := h
  clear h
  replace H := Option.bind_eq_some_iff.mp H
  obtain ⟨⟨t299, t300⟩, A20, H⟩ := H
  replace H : (some t299) = some r := H
  have A2 := Aside0.mk A20
  clear A20
  obtain rfl := Option.some.inj H
  go_enter Try.func27, Try.ntmps27
  go_wp2_with (first | ((with_reducible refine gate_callee (f := 34) rfl ?_); refine goesL_ (some 7) rfl rfl Try.func34 (by kernel_rfl) rfl #[.string a0] rfl (by (try simp only [List.map_toArray, List.map_cons, List.map_nil]); first | done | rfl | (simp only [List.length_drop, List.length_take]; rfl)) ?_; (with_reducible refine (impl_readPath.calls k a0 t299 t300 _ A2.out).mono ?_); rintro e w3 ⟨v301, rfl, ho0, hb⟩; refine ⟨_, rfl, ?_⟩; have n0_ := Aside0.mk (Kd.Q_lower ho0 (below_size (by repeat (first | (with_reducible first | exact HB.out | apply below_alloc | apply pw_below_drewN | apply below_drew1) | exact HB.out)))); have n1_ := Aside0.mk (below_step (by repeat (first | (with_reducible first | exact HB.out | apply below_alloc | apply pw_below_drewN | apply below_drew1) | exact HB.out)) hb); clear HB; have HO302 := n0_; have HB := n1_; clear n0_ n1_; (try clear hb); (try clear hb2); (try clear hk); (try clear hi); (try clear ho0)))
  go_ret
  exact ⟨_, by first | rfl | (simp [errW_none, errW_some] <;> rfl) | (simp [*, errW_none, errW_some] <;> rfl), by (with_reducible repeat (first | apply Kd.Q_alloc | apply Kd.Q_drewN | apply Kd.Q_drew)); exact HO302.out, by repeat (first | (with_reducible first | exact HB.out | apply below_alloc | apply pw_below_drewN | apply below_drew1) | exact HB.out)⟩

/-! ### impl_Last: function 28 -/
def impl_Last.f (k : Nat) (a0 : ByteArray) : Option (ByteArray) := (impl_Names.f k a0).bind fun t303 => (if (t303.length : Int) = 0 then (some (⟨#[]⟩ : ByteArray)) else (if 0 ≤ (wrap64 ((t303.length : Int) - 1)) then (if (wrap64 ((t303.length : Int) - 1)) < (t303.length : Int) then (some (rdOf ByteArray.empty t303 (wrap64 ((t303.length : Int) - 1)))) else (none)) else (none)))
theorem impl_Last.mono : ∀ a0 k, LeO (impl_Last.f k a0) (impl_Last.f (k + 1) a0) := by
  intro a0 k
  unfold impl_Last.f
  repeat' first
      | (with_reducible exact impl_Names.mono _ _)
      | (with_reducible exact LeO.refl _)
      | (with_reducible exact LeO.none _)
      | (with_reducible refine LeO.ite ?_ ?_)
      | (with_reducible refine LeO.bind ?_ (fun _ => ?_))
      | exact impl_Names.mono _ _
      | exact LeO.none _
      | refine LeO.ite ?_ ?_
      | refine LeO.bind ?_ (fun _ => ?_)
set_option maxHeartbeats 8000000 in
set_option maxRecDepth 100000 in
theorem impl_Last.calls (k : Nat) (a0 : ByteArray) (r : ByteArray) (w : World) (h : impl_Last.f k a0 = some r) :
    Calls Try.prog 28 #[.string a0] w fun e w' => e = .returned (.string r) ∧ Below w.heap.size w w' := by
  have HB := Aside0.mk (Below.refl w.heap.size w)
  have H : ((impl_Names.f k a0).bind fun t303 => (if (t303.length : Int) = 0 then (some (⟨#[]⟩ : ByteArray)) else (if 0 ≤ (wrap64 ((t303.length : Int) - 1)) then (if (wrap64 ((t303.length : Int) - 1)) < (t303.length : Int) then (some (rdOf ByteArray.empty t303 (wrap64 ((t303.length : Int) - 1)))) else (none)) else (none)))) = some r := h
  clear h
  replace H := Option.bind_eq_some_iff.mp H
  obtain ⟨t303, A20, H⟩ := H
  replace H : (if (t303.length : Int) = 0 then (some (⟨#[]⟩ : ByteArray)) else (if 0 ≤ (wrap64 ((t303.length : Int) - 1)) then (if (wrap64 ((t303.length : Int) - 1)) < (t303.length : Int) then (some (rdOf ByteArray.empty t303 (wrap64 ((t303.length : Int) - 1)))) else (none)) else (none))) = some r := H
  have A2 := Aside0.mk A20
  clear A20
  by_cases c3 : (t303.length : Int) = 0
  · rw [if_pos c3] at H
    have c3b0 : ((t303.length : Int) == 0) = true := beq_iff_eq.mpr c3
    have c3b1 : ((t303.length : Int) != 0) = false := bne_eq_false_iff_eq.mpr c3
    clear c3
    obtain rfl := Option.some.inj H
    go_enter Try.func28, Try.ntmps28
    go_wp2_with (first | ((with_reducible refine gate_callee (f := 27) rfl ?_); refine goesL_ (some 5) rfl rfl Try.func27 (by kernel_rfl) rfl #[.string a0] rfl (by (try simp only [List.map_toArray, List.map_cons, List.map_nil]); first | done | rfl | (simp only [List.length_drop, List.length_take]; rfl)) ?_; (with_reducible refine (impl_Names.calls k a0 t303 _ A2.out).mono ?_); rintro e w4 ⟨v304, rfl, ho0, hb⟩; refine ⟨_, rfl, ?_⟩; have n0_ := Aside0.mk (Kd.Q_lower ho0 (below_size (by repeat (first | (with_reducible first | exact HB.out | apply below_alloc | apply pw_below_drewN | apply below_drew1) | exact HB.out)))); have n1_ := Aside0.mk (below_step (by repeat (first | (with_reducible first | exact HB.out | apply below_alloc | apply pw_below_drewN | apply below_drew1) | exact HB.out)) hb); clear HB; have HO305 := n0_; have HB := n1_; clear n0_ n1_; (try clear hb); (try clear hb2); (try clear hk); (try clear hi); (try clear ho0); obtain ⟨Ao5, co5, eo5, _⟩ := Kd.Q_slice HO305.out; subst eo5))
    go_ret
    exact ⟨by first | rfl | (simp [errW_none, errW_some] <;> rfl) | (simp [*, errW_none, errW_some] <;> rfl), by repeat (first | (with_reducible first | exact HB.out | apply below_alloc | apply pw_below_drewN | apply below_drew1) | exact HB.out)⟩
  · rw [if_neg c3] at H
    have c3b0 : ((t303.length : Int) == 0) = false := beq_eq_false_iff_ne.mpr c3
    have c3b1 : ((t303.length : Int) != 0) = true := bne_iff_ne.mpr c3
    have c3b2 : ¬ (t303 = []) := fun h_ => c3 (by rw [h_]; rfl)
    obtain ⟨ji6, hji6⟩ : ∃ j_ : Int, (wrap64 ((t303.length : Int) - 1)) = j_ := ⟨_, rfl⟩
    replace H : (if 0 ≤ (ji6) then (if (ji6) < (t303.length : Int) then (some (rdOf ByteArray.empty t303 (ji6))) else (none)) else (none)) = some r := by first | (rw [hji6] at H; exact H) | (simp only [hji6] at H ⊢; exact H)
    (try rw [hji6] at A2)
    have hji6w : (IntKind.i64.wrap ((t303.length : Int) - 1)) = ji6 := (i64_w _).trans hji6
    by_cases c7 : 0 ≤ (ji6)
    · rw [if_pos c7] at H
      have c7b0 : decide (0 ≤ (ji6)) = true := decide_eq_true c7
      clear c7
      by_cases c8 : (ji6) < (t303.length : Int)
      · rw [if_pos c8] at H
        have c8b0 : decide ((ji6) < (t303.length : Int)) = true := decide_eq_true c8
        clear c8
        obtain rfl := Option.some.inj H
        go_enter Try.func28, Try.ntmps28
        go_wp2_with (first | ((with_reducible refine gate_callee (f := 27) rfl ?_); refine goesL_ (some 5) rfl rfl Try.func27 (by kernel_rfl) rfl #[.string a0] rfl (by (try simp only [List.map_toArray, List.map_cons, List.map_nil]); first | done | rfl | (simp only [List.length_drop, List.length_take]; rfl)) ?_; (with_reducible refine (impl_Names.calls k a0 t303 _ A2.out).mono ?_); rintro e w9 ⟨v304, rfl, ho0, hb⟩; refine ⟨_, rfl, ?_⟩; have n0_ := Aside0.mk (Kd.Q_lower ho0 (below_size (by repeat (first | (with_reducible first | exact HB.out | apply below_alloc | apply pw_below_drewN | apply below_drew1) | exact HB.out)))); have n1_ := Aside0.mk (below_step (by repeat (first | (with_reducible first | exact HB.out | apply below_alloc | apply pw_below_drewN | apply below_drew1) | exact HB.out)) hb); clear HB; have HO305 := n0_; have HB := n1_; clear n0_ n1_; (try clear hb); (try clear hb2); (try clear hk); (try clear hi); (try clear ho0); obtain ⟨Ao10, co10, eo10, _⟩ := Kd.Q_slice HO305.out; subst eo10; have p306 : 0 ≤ ((ji6) : Int) := of_decide_eq_true (by first | (with_reducible assumption) | assumption); have q306 : (ji6) < (t303.length : Int) := of_decide_eq_true (by first | (with_reducible assumption) | assumption); obtain ⟨ad306, e306, hx306_0⟩ := Kd.at_string (Kd.Q_reads' HO305.out).2.2 (ji6) p306 q306; cases e306; replace p306 := eq_true p306; replace q306 := eq_true q306))
        go_ret
        exact ⟨by first | rfl | (simp [errW_none, errW_some] <;> rfl) | (simp only [← hji6]; first | rfl | (simp [errW_none, errW_some] <;> rfl)) | (simp [*, errW_none, errW_some] <;> rfl), by repeat (first | (with_reducible first | exact HB.out | apply below_alloc | apply pw_below_drewN | apply below_drew1) | exact HB.out)⟩
      · rw [if_neg c8] at H
        exact absurd H (by simp)
    · rw [if_neg c7] at H
      exact absurd H (by simp)

/-! ### laws_FnNormal: function 8 -/
def laws_FnNormal.j0 : Nat → ByteArray → Bool → Option (Bool)
  | 0, _, _ => none
  | k + 1, x4, x56 => if x56 = true then (some false) else (if (x4.size : Int) > 40 then (some true) else (if x4.size + 5 ≤ 9223372036854775807 then ((impl_Normal.f k (x4 ++ (⟨#[47, 113, 47, 46, 46]⟩ : ByteArray))).bind fun bt320 => (if bt320.2 = true then (if bt320.1.toList = x4.toList then (if x4.toList = ([47] : List UInt8) then (some true) else ((impl_Above.f k x4).bind fun t322 => ((impl_Last.f k x4).bind fun t323 => ((impl_PathJoin.f k t322 t323).bind fun t324 => (some (t324.toList == x4.toList)))))) else (some false)) else (some false))) else (none)))
def laws_FnNormal.f (k : Nat) (l0 : List Int) : Option (Bool) := (laws_big.f l0).bind fun t307 => (if t307 = true then (some true) else ((spec_DrawNormal.f k l0).bind fun t308 => ((impl_Normal.f k t308).bind fun bt309 => ((spec_Normal.f k t308).bind fun bt311 => (if (bt309.2 != bt311.2) = true then (some false) else (if bt309.2 = true then ((impl_Normal.f k bt309.1).bind fun bt313 => (if bt313.2 = true then (if bt313.1.toList = bt309.1.toList then ((impl_PathOk.f k bt309.1).bind fun t315 => (if t315 = true then ((impl_Names.f k bt309.1).bind fun t316 => ((impl_PathOf.f k t316).bind fun t319 => (laws_FnNormal.j0 k bt309.1 (t319.toList != bt309.1.toList)))) else (laws_FnNormal.j0 k bt309.1 true))) else (laws_FnNormal.j0 k bt309.1 true)) else (laws_FnNormal.j0 k bt309.1 true))) else (some (bt309.1.toList == ([] : List UInt8)))))))))
theorem laws_FnNormal.mono_l : ∀ k, (∀ y0 y1, LeO (laws_FnNormal.j0 k y0 y1) (laws_FnNormal.j0 (k + 1) y0 y1))
  | 0 => fun _ _ r h => by simp [laws_FnNormal.j0] at h
  | k + 1 => by
    have ih0 := laws_FnNormal.mono_l k
    · intro y0 y1
      unfold laws_FnNormal.j0
      repeat' first
      | (with_reducible exact ih0 _ _)
      | (with_reducible exact impl_Above.mono _ _)
      | (with_reducible exact impl_Last.mono _ _)
      | (with_reducible exact impl_Names.mono _ _)
      | (with_reducible exact impl_Normal.mono _ _)
      | (with_reducible exact impl_PathJoin.mono _ _ _)
      | (with_reducible exact impl_PathOf.mono _ _)
      | (with_reducible exact impl_PathOk.mono _ _)
      | (with_reducible exact spec_DrawNormal.mono _ _)
      | (with_reducible exact spec_Normal.mono _ _)
      | (with_reducible exact LeO.refl _)
      | (with_reducible exact LeO.none _)
      | (with_reducible refine LeO.ite ?_ ?_)
      | (with_reducible refine LeO.bind ?_ (fun _ => ?_))
      | exact ih0 _ _
      | exact impl_Above.mono _ _
      | exact impl_Last.mono _ _
      | exact impl_Names.mono _ _
      | exact impl_Normal.mono _ _
      | exact impl_PathJoin.mono _ _ _
      | exact impl_PathOf.mono _ _
      | exact impl_PathOk.mono _ _
      | exact spec_DrawNormal.mono _ _
      | exact spec_Normal.mono _ _
      | exact LeO.none _
      | refine LeO.ite ?_ ?_
      | refine LeO.bind ?_ (fun _ => ?_)
theorem laws_FnNormal.mono : ∀ a0 k, LeO (laws_FnNormal.f k a0) (laws_FnNormal.f (k + 1) a0) := by
  intro a0 k
  have ih0 := laws_FnNormal.mono_l k
  unfold laws_FnNormal.f
  repeat' first
      | (with_reducible exact ih0 _ _)
      | (with_reducible exact impl_Above.mono _ _)
      | (with_reducible exact impl_Last.mono _ _)
      | (with_reducible exact impl_Names.mono _ _)
      | (with_reducible exact impl_Normal.mono _ _)
      | (with_reducible exact impl_PathJoin.mono _ _ _)
      | (with_reducible exact impl_PathOf.mono _ _)
      | (with_reducible exact impl_PathOk.mono _ _)
      | (with_reducible exact spec_DrawNormal.mono _ _)
      | (with_reducible exact spec_Normal.mono _ _)
      | (with_reducible exact LeO.refl _)
      | (with_reducible exact LeO.none _)
      | (with_reducible refine LeO.ite ?_ ?_)
      | (with_reducible refine LeO.bind ?_ (fun _ => ?_))
      | exact ih0 _ _
      | exact impl_Above.mono _ _
      | exact impl_Last.mono _ _
      | exact impl_Names.mono _ _
      | exact impl_Normal.mono _ _
      | exact impl_PathJoin.mono _ _ _
      | exact impl_PathOf.mono _ _
      | exact impl_PathOk.mono _ _
      | exact spec_DrawNormal.mono _ _
      | exact spec_Normal.mono _ _
      | exact LeO.none _
      | refine LeO.ite ?_ ?_
      | refine LeO.bind ?_ (fun _ => ?_)
set_option maxHeartbeats 8000000 in
set_option maxRecDepth 100000 in
theorem laws_FnNormal.calls (k : Nat) (A0 : Option Addr) (c0 : Nat) (l0 : List Int) (r : Bool) (w : World) (hr0 : Kd.C (Kd.int .u8) w A0 l0.length l0) (hc0 : l0.length ≤ c0) (h : laws_FnNormal.f k l0 = some r) :
    Calls Try.prog 8 #[.slice A0 l0.length c0] w fun e w' => e = .returned (.bool r) ∧ Below w.heap.size w w' := by
  have HR0 := Aside0.mk hr0
  have HC0 := Aside0.mk hc0
  clear hr0 hc0
  have HB := Aside0.mk (Below.refl w.heap.size w)
  have H : ((laws_big.f l0).bind fun t307 => (if t307 = true then (some true) else ((spec_DrawNormal.f k l0).bind fun t308 => ((impl_Normal.f k t308).bind fun bt309 => ((spec_Normal.f k t308).bind fun bt311 => (if (bt309.2 != bt311.2) = true then (some false) else (if bt309.2 = true then ((impl_Normal.f k bt309.1).bind fun bt313 => (if bt313.2 = true then (if bt313.1.toList = bt309.1.toList then ((impl_PathOk.f k bt309.1).bind fun t315 => (if t315 = true then ((impl_Names.f k bt309.1).bind fun t316 => ((impl_PathOf.f k t316).bind fun t319 => (laws_FnNormal.j0 k bt309.1 (t319.toList != bt309.1.toList)))) else (laws_FnNormal.j0 k bt309.1 true))) else (laws_FnNormal.j0 k bt309.1 true)) else (laws_FnNormal.j0 k bt309.1 true))) else (some (bt309.1.toList == ([] : List UInt8)))))))))) = some r := h
  clear h
  replace H := Option.bind_eq_some_iff.mp H
  obtain ⟨t307, A20, H⟩ := H
  replace H : (if t307 = true then (some true) else ((spec_DrawNormal.f k l0).bind fun t308 => ((impl_Normal.f k t308).bind fun bt309 => ((spec_Normal.f k t308).bind fun bt311 => (if (bt309.2 != bt311.2) = true then (some false) else (if bt309.2 = true then ((impl_Normal.f k bt309.1).bind fun bt313 => (if bt313.2 = true then (if bt313.1.toList = bt309.1.toList then ((impl_PathOk.f k bt309.1).bind fun t315 => (if t315 = true then ((impl_Names.f k bt309.1).bind fun t316 => ((impl_PathOf.f k t316).bind fun t319 => (laws_FnNormal.j0 k bt309.1 (t319.toList != bt309.1.toList)))) else (laws_FnNormal.j0 k bt309.1 true))) else (laws_FnNormal.j0 k bt309.1 true)) else (laws_FnNormal.j0 k bt309.1 true))) else (some (bt309.1.toList == ([] : List UInt8))))))))) = some r := H
  have A2 := Aside0.mk A20
  clear A20
  by_cases c3 : t307 = true
  · subst c3
    have H1 : (some true) = some r := by rw [if_pos rfl] at H; exact H
    clear H
    have H := H1
    clear H1
    obtain rfl := Option.some.inj H
    go_enter Try.func8, Try.ntmps8
    go_wp2_with (first | ((with_reducible refine gate_callee (f := 20) rfl ?_); refine goesL_ (some 13) rfl rfl Try.func20 (by kernel_rfl) rfl #[.slice A0 l0.length c0] rfl (by (try simp only [List.map_toArray, List.map_cons, List.map_nil]); first | done | rfl | (simp only [List.length_drop, List.length_take]; rfl)) ?_; (with_reducible refine (laws_big.calls _ _ l0 true _ ?side1 ?side2 A2.out).mono ?_); (case side1 => repeat (first | exact HR0.out | (with_reducible refine Kd.C_alloc ?_ _) | (with_reducible refine Kd.C_drewN ?_ _) | (with_reducible refine Kd.C_drew ?_))); (case side2 => exact HC0.out); rintro e w' ⟨rfl, ⟨nd, rfl⟩⟩; refine ⟨_, rfl, ?_⟩))
    go_ret
    exact ⟨by first | rfl | (simp [errW_none, errW_some] <;> rfl) | (simp [*, errW_none, errW_some] <;> rfl), by repeat (first | (with_reducible first | exact HB.out | apply below_alloc | apply pw_below_drewN | apply below_drew1) | exact HB.out)⟩
  · replace c3 := Bool.eq_false_iff.mpr c3
    subst c3
    have H1 : ((spec_DrawNormal.f k l0).bind fun t308 => ((impl_Normal.f k t308).bind fun bt309 => ((spec_Normal.f k t308).bind fun bt311 => (if (bt309.2 != bt311.2) = true then (some false) else (if bt309.2 = true then ((impl_Normal.f k bt309.1).bind fun bt313 => (if bt313.2 = true then (if bt313.1.toList = bt309.1.toList then ((impl_PathOk.f k bt309.1).bind fun t315 => (if t315 = true then ((impl_Names.f k bt309.1).bind fun t316 => ((impl_PathOf.f k t316).bind fun t319 => (laws_FnNormal.j0 k bt309.1 (t319.toList != bt309.1.toList)))) else (laws_FnNormal.j0 k bt309.1 true))) else (laws_FnNormal.j0 k bt309.1 true)) else (laws_FnNormal.j0 k bt309.1 true))) else (some (bt309.1.toList == ([] : List UInt8)))))))) = some r := by rw [if_neg (show ¬ (false = true) by decide)] at H; exact H
    clear H
    have H := H1
    clear H1
    replace H := Option.bind_eq_some_iff.mp H
    obtain ⟨t308, A40, H⟩ := H
    replace H : ((impl_Normal.f k t308).bind fun bt309 => ((spec_Normal.f k t308).bind fun bt311 => (if (bt309.2 != bt311.2) = true then (some false) else (if bt309.2 = true then ((impl_Normal.f k bt309.1).bind fun bt313 => (if bt313.2 = true then (if bt313.1.toList = bt309.1.toList then ((impl_PathOk.f k bt309.1).bind fun t315 => (if t315 = true then ((impl_Names.f k bt309.1).bind fun t316 => ((impl_PathOf.f k t316).bind fun t319 => (laws_FnNormal.j0 k bt309.1 (t319.toList != bt309.1.toList)))) else (laws_FnNormal.j0 k bt309.1 true))) else (laws_FnNormal.j0 k bt309.1 true)) else (laws_FnNormal.j0 k bt309.1 true))) else (some (bt309.1.toList == ([] : List UInt8))))))) = some r := H
    have A4 := Aside0.mk A40
    clear A40
    replace H := Option.bind_eq_some_iff.mp H
    obtain ⟨⟨t309, t310⟩, A50, H⟩ := H
    replace H : ((spec_Normal.f k t308).bind fun bt311 => (if (t310 != bt311.2) = true then (some false) else (if t310 = true then ((impl_Normal.f k t309).bind fun bt313 => (if bt313.2 = true then (if bt313.1.toList = t309.toList then ((impl_PathOk.f k t309).bind fun t315 => (if t315 = true then ((impl_Names.f k t309).bind fun t316 => ((impl_PathOf.f k t316).bind fun t319 => (laws_FnNormal.j0 k t309 (t319.toList != t309.toList)))) else (laws_FnNormal.j0 k t309 true))) else (laws_FnNormal.j0 k t309 true)) else (laws_FnNormal.j0 k t309 true))) else (some (t309.toList == ([] : List UInt8)))))) = some r := H
    have A5 := Aside0.mk A50
    clear A50
    replace H := Option.bind_eq_some_iff.mp H
    obtain ⟨⟨t311, t312⟩, A60, H⟩ := H
    replace H : (if (t310 != t312) = true then (some false) else (if t310 = true then ((impl_Normal.f k t309).bind fun bt313 => (if bt313.2 = true then (if bt313.1.toList = t309.toList then ((impl_PathOk.f k t309).bind fun t315 => (if t315 = true then ((impl_Names.f k t309).bind fun t316 => ((impl_PathOf.f k t316).bind fun t319 => (laws_FnNormal.j0 k t309 (t319.toList != t309.toList)))) else (laws_FnNormal.j0 k t309 true))) else (laws_FnNormal.j0 k t309 true)) else (laws_FnNormal.j0 k t309 true))) else (some (t309.toList == ([] : List UInt8))))) = some r := H
    have A6 := Aside0.mk A60
    clear A60
    by_cases c7 : (t310 != t312) = true
    · rw [if_pos c7] at H
      have c7b0 : (t310 != t312) = true := c7
      (try (have c7b1 : decide (t310 = t312) = false := by simpa using c7))
      (try (have c7b2 : (t310 == t312) = false := by simpa using c7))
      (try (have c7b3 : ¬ (t310 = t312) := by simpa using c7))
      clear c7
      obtain rfl := Option.some.inj H
      go_enter Try.func8, Try.ntmps8
      go_wp2_with (first | ((with_reducible refine gate_callee (f := 20) rfl ?_); refine goesL_ (some 13) rfl rfl Try.func20 (by kernel_rfl) rfl #[.slice A0 l0.length c0] rfl (by (try simp only [List.map_toArray, List.map_cons, List.map_nil]); first | done | rfl | (simp only [List.length_drop, List.length_take]; rfl)) ?_; (with_reducible refine (laws_big.calls _ _ l0 false _ ?side1 ?side2 A2.out).mono ?_); (case side1 => repeat (first | exact HR0.out | (with_reducible refine Kd.C_alloc ?_ _) | (with_reducible refine Kd.C_drewN ?_ _) | (with_reducible refine Kd.C_drew ?_))); (case side2 => exact HC0.out); rintro e w' ⟨rfl, ⟨nd, rfl⟩⟩; refine ⟨_, rfl, ?_⟩) | ((with_reducible refine gate_callee (f := 25) rfl ?_); refine goesL_ (some 15) rfl rfl Try.func25 (by kernel_rfl) rfl #[.slice A0 l0.length c0] rfl (by (try simp only [List.map_toArray, List.map_cons, List.map_nil]); first | done | rfl | (simp only [List.length_drop, List.length_take]; rfl)) ?_; (with_reducible refine (spec_DrawNormal.calls k _ _ l0 t308 _ ?side1 ?side2 A4.out).mono ?_); (case side1 => repeat (first | exact HR0.out | (with_reducible refine Kd.C_alloc ?_ _) | (with_reducible refine Kd.C_drewN ?_ _) | (with_reducible refine Kd.C_drew ?_))); (case side2 => exact HC0.out); rintro e w8 ⟨rfl, hb⟩; refine ⟨_, rfl, ?_⟩; have n0_ := Aside0.mk (below_step (by repeat (first | (with_reducible first | exact HB.out | apply below_alloc | apply pw_below_drewN | apply below_drew1) | exact HB.out)) hb); clear HB; have HB := n0_; clear n0_; (try clear hb); (try clear hb2); (try clear hk); (try clear hi)) | ((with_reducible refine gate_callee (f := 19) rfl ?_); refine goesL_ (some 18) rfl rfl Try.func19 (by kernel_rfl) rfl #[.string t308] rfl (by (try simp only [List.map_toArray, List.map_cons, List.map_nil]); first | done | rfl | (simp only [List.length_drop, List.length_take]; rfl)) ?_; (with_reducible refine (impl_Normal.calls k t308 t309 t310 _ A5.out).mono ?_); rintro e w9 ⟨rfl, hb⟩; refine ⟨_, rfl, ?_⟩; have n0_ := Aside0.mk (below_step (by repeat (first | (with_reducible first | exact HB.out | apply below_alloc | apply pw_below_drewN | apply below_drew1) | exact HB.out)) hb); clear HB; have HB := n0_; clear n0_; (try clear hb); (try clear hb2); (try clear hk); (try clear hi)) | ((with_reducible refine gate_callee (f := 18) rfl ?_); refine goesL_ (some 23) rfl rfl Try.func18 (by kernel_rfl) rfl #[.string t308] rfl (by (try simp only [List.map_toArray, List.map_cons, List.map_nil]); first | done | rfl | (simp only [List.length_drop, List.length_take]; rfl)) ?_; (with_reducible refine (spec_Normal.calls k t308 t311 t312 _ A6.out).mono ?_); rintro e w10 ⟨rfl, hb⟩; refine ⟨_, rfl, ?_⟩; have n0_ := Aside0.mk (below_step (by repeat (first | (with_reducible first | exact HB.out | apply below_alloc | apply pw_below_drewN | apply below_drew1) | exact HB.out)) hb); clear HB; have HB := n0_; clear n0_; (try clear hb); (try clear hb2); (try clear hk); (try clear hi)))
      go_ret
      exact ⟨by first | rfl | (simp [errW_none, errW_some] <;> rfl) | (simp [*, errW_none, errW_some] <;> rfl), by repeat (first | (with_reducible first | exact HB.out | apply below_alloc | apply pw_below_drewN | apply below_drew1) | exact HB.out)⟩
    · rw [if_neg c7] at H
      have c7b0 : (t310 != t312) = false := by simpa using c7
      (try (have c7b1 : decide (t310 = t312) = true := by simpa using c7))
      (try (have c7b2 : (t310 == t312) = true := by simpa using c7))
      clear c7
      by_cases c11 : t310 = true
      · subst c11
        have H1 : ((impl_Normal.f k t309).bind fun bt313 => (if bt313.2 = true then (if bt313.1.toList = t309.toList then ((impl_PathOk.f k t309).bind fun t315 => (if t315 = true then ((impl_Names.f k t309).bind fun t316 => ((impl_PathOf.f k t316).bind fun t319 => (laws_FnNormal.j0 k t309 (t319.toList != t309.toList)))) else (laws_FnNormal.j0 k t309 true))) else (laws_FnNormal.j0 k t309 true)) else (laws_FnNormal.j0 k t309 true))) = some r := by rw [if_pos rfl] at H; exact H
        clear H
        have H := H1
        clear H1
        replace H := Option.bind_eq_some_iff.mp H
        obtain ⟨⟨t313, t314⟩, A120, H⟩ := H
        replace H : (if t314 = true then (if t313.toList = t309.toList then ((impl_PathOk.f k t309).bind fun t315 => (if t315 = true then ((impl_Names.f k t309).bind fun t316 => ((impl_PathOf.f k t316).bind fun t319 => (laws_FnNormal.j0 k t309 (t319.toList != t309.toList)))) else (laws_FnNormal.j0 k t309 true))) else (laws_FnNormal.j0 k t309 true)) else (laws_FnNormal.j0 k t309 true)) = some r := H
        have A12 := Aside0.mk A120
        clear A120
        have HC13 := Aside0.mk H
        clear H
        go_enter Try.func8, Try.ntmps8
        go_upto_region 11 with (first | ((with_reducible refine gate_callee (f := 20) rfl ?_); refine goesL_ (some 13) rfl rfl Try.func20 (by kernel_rfl) rfl #[.slice A0 l0.length c0] rfl (by (try simp only [List.map_toArray, List.map_cons, List.map_nil]); first | done | rfl | (simp only [List.length_drop, List.length_take]; rfl)) ?_; (with_reducible refine (laws_big.calls _ _ l0 false _ ?side1 ?side2 A2.out).mono ?_); (case side1 => repeat (first | exact HR0.out | (with_reducible refine Kd.C_alloc ?_ _) | (with_reducible refine Kd.C_drewN ?_ _) | (with_reducible refine Kd.C_drew ?_))); (case side2 => exact HC0.out); rintro e w' ⟨rfl, ⟨nd, rfl⟩⟩; refine ⟨_, rfl, ?_⟩) | ((with_reducible refine gate_callee (f := 25) rfl ?_); refine goesL_ (some 15) rfl rfl Try.func25 (by kernel_rfl) rfl #[.slice A0 l0.length c0] rfl (by (try simp only [List.map_toArray, List.map_cons, List.map_nil]); first | done | rfl | (simp only [List.length_drop, List.length_take]; rfl)) ?_; (with_reducible refine (spec_DrawNormal.calls k _ _ l0 t308 _ ?side1 ?side2 A4.out).mono ?_); (case side1 => repeat (first | exact HR0.out | (with_reducible refine Kd.C_alloc ?_ _) | (with_reducible refine Kd.C_drewN ?_ _) | (with_reducible refine Kd.C_drew ?_))); (case side2 => exact HC0.out); rintro e w14 ⟨rfl, hb⟩; refine ⟨_, rfl, ?_⟩; have n0_ := Aside0.mk (below_step (by repeat (first | (with_reducible first | exact HB.out | apply below_alloc | apply pw_below_drewN | apply below_drew1) | exact HB.out)) hb); clear HB; have HB := n0_; clear n0_; (try clear hb); (try clear hb2); (try clear hk); (try clear hi)) | ((with_reducible refine gate_callee (f := 19) rfl ?_); refine goesL_ (some 18) rfl rfl Try.func19 (by kernel_rfl) rfl #[.string t308] rfl (by (try simp only [List.map_toArray, List.map_cons, List.map_nil]); first | done | rfl | (simp only [List.length_drop, List.length_take]; rfl)) ?_; (with_reducible refine (impl_Normal.calls k t308 t309 true _ A5.out).mono ?_); rintro e w15 ⟨rfl, hb⟩; refine ⟨_, rfl, ?_⟩; have n0_ := Aside0.mk (below_step (by repeat (first | (with_reducible first | exact HB.out | apply below_alloc | apply pw_below_drewN | apply below_drew1) | exact HB.out)) hb); clear HB; have HB := n0_; clear n0_; (try clear hb); (try clear hb2); (try clear hk); (try clear hi)) | ((with_reducible refine gate_callee (f := 18) rfl ?_); refine goesL_ (some 23) rfl rfl Try.func18 (by kernel_rfl) rfl #[.string t308] rfl (by (try simp only [List.map_toArray, List.map_cons, List.map_nil]); first | done | rfl | (simp only [List.length_drop, List.length_take]; rfl)) ?_; (with_reducible refine (spec_Normal.calls k t308 t311 t312 _ A6.out).mono ?_); rintro e w16 ⟨rfl, hb⟩; refine ⟨_, rfl, ?_⟩; have n0_ := Aside0.mk (below_step (by repeat (first | (with_reducible first | exact HB.out | apply below_alloc | apply pw_below_drewN | apply below_drew1) | exact HB.out)) hb); clear HB; have HB := n0_; clear n0_; (try clear hb); (try clear hb2); (try clear hk); (try clear hi)) | ((with_reducible refine gate_callee (f := 19) rfl ?_); refine goesL_ (some 35) rfl rfl Try.func19 (by kernel_rfl) rfl #[.string t309] rfl (by (try simp only [List.map_toArray, List.map_cons, List.map_nil]); first | done | rfl | (simp only [List.length_drop, List.length_take]; rfl)) ?_; (with_reducible refine (impl_Normal.calls k t309 t313 t314 _ A12.out).mono ?_); rintro e w17 ⟨rfl, hb⟩; refine ⟨_, rfl, ?_⟩; have n0_ := Aside0.mk (below_step (by repeat (first | (with_reducible first | exact HB.out | apply below_alloc | apply pw_below_drewN | apply below_drew1) | exact HB.out)) hb); clear HB; have HB := n0_; clear n0_; (try clear hb); (try clear hb2); (try clear hk); (try clear hi)))
        (try simp only [Act.put, List.setIfInBounds_toArray, List.set_cons_zero, List.set_cons_succ])
        go_cut [56] (fun v56 wc => ∃ (kq : Nat) (x56_12 : Bool), v56 = .bool x56_12 ∧ Aside0 (laws_FnNormal.j0 kq t309 x56_12 = some r) ∧ Aside0 (kq ≤ k) ∧ Aside0 (Below w.heap.size w wc))
        case first =>
          have H := HC13.out
          clear HC13
          by_cases c18 : t314 = true
          · subst c18
            have H1 : (if t313.toList = t309.toList then ((impl_PathOk.f k t309).bind fun t315 => (if t315 = true then ((impl_Names.f k t309).bind fun t316 => ((impl_PathOf.f k t316).bind fun t319 => (laws_FnNormal.j0 k t309 (t319.toList != t309.toList)))) else (laws_FnNormal.j0 k t309 true))) else (laws_FnNormal.j0 k t309 true)) = some r := by rw [if_pos rfl] at H; exact H
            clear H
            have H := H1
            clear H1
            by_cases c19 : t313.toList = t309.toList
            · rw [if_pos c19] at H
              have c19b0 : (t313.toList == t309.toList) = true := beq_iff_eq.mpr c19
              have c19b1 : (t313.toList != t309.toList) = false := bne_eq_false_iff_eq.mpr c19
              clear c19
              (first | rw [c19b0] | (simp only [i64_w, i32_w]; rw [c19b0]) | rw [c19b1] | rw [c19b2] | skip)
              replace H := Option.bind_eq_some_iff.mp H
              obtain ⟨t315, A200, H⟩ := H
              replace H : (if t315 = true then ((impl_Names.f k t309).bind fun t316 => ((impl_PathOf.f k t316).bind fun t319 => (laws_FnNormal.j0 k t309 (t319.toList != t309.toList)))) else (laws_FnNormal.j0 k t309 true)) = some r := H
              have A20 := Aside0.mk A200
              clear A200
              by_cases c21 : t315 = true
              · subst c21
                have H1 : ((impl_Names.f k t309).bind fun t316 => ((impl_PathOf.f k t316).bind fun t319 => (laws_FnNormal.j0 k t309 (t319.toList != t309.toList)))) = some r := by rw [if_pos rfl] at H; exact H
                clear H
                have H := H1
                clear H1
                replace H := Option.bind_eq_some_iff.mp H
                obtain ⟨t316, A220, H⟩ := H
                replace H : ((impl_PathOf.f k t316).bind fun t319 => (laws_FnNormal.j0 k t309 (t319.toList != t309.toList))) = some r := H
                have A22 := Aside0.mk A220
                clear A220
                replace H := Option.bind_eq_some_iff.mp H
                obtain ⟨t319, A230, H⟩ := H
                replace H : (laws_FnNormal.j0 k t309 (t319.toList != t309.toList)) = some r := H
                have A23 := Aside0.mk A230
                clear A230
                have H' := Aside0.mk H
                clear H
                go_wp2_with (first | (go_at_call 26; (with_reducible refine (impl_PathOk.calls k t309 true _ A20.out).mono ?_); rintro e w24 ⟨rfl, hb⟩; have n0_ := Aside0.mk (below_step (by repeat (first | (with_reducible first | exact HB.out | apply below_alloc | apply pw_below_drewN | apply below_drew1) | exact HB.out)) hb); clear HB; have HB := n0_; clear n0_; (try clear hb); (try clear hb2); (try clear hk); (try clear hi)) | (go_at_call 27; (with_reducible refine (impl_Names.calls k t309 t316 _ A22.out).mono ?_); rintro e w25 ⟨v317, rfl, ho0, hb⟩; have n0_ := Aside0.mk (Kd.Q_lower ho0 (below_size (by repeat (first | (with_reducible first | exact HB.out | apply below_alloc | apply pw_below_drewN | apply below_drew1) | exact HB.out)))); have n1_ := Aside0.mk (below_step (by repeat (first | (with_reducible first | exact HB.out | apply below_alloc | apply pw_below_drewN | apply below_drew1) | exact HB.out)) hb); clear HB; have HO318 := n0_; have HB := n1_; clear n0_ n1_; (try clear hb); (try clear hb2); (try clear hk); (try clear hi); (try clear ho0); obtain ⟨Ao26, co26, eo26, _⟩ := Kd.Q_slice HO318.out; subst eo26) | (go_at_call 12; (with_reducible refine (impl_PathOf.calls k _ _ t316 t319 _ ?side1 ?side2 A23.out).mono ?_); (case side1 => repeat (first | exact (Kd.Q_reads' HO318.out).2.2 | (with_reducible refine Kd.C_alloc ?_ _) | (with_reducible refine Kd.C_drewN ?_ _) | (with_reducible refine Kd.C_drew ?_))); (case side2 => exact (Kd.Q_reads' HO318.out).2.1); rintro e w27 ⟨rfl, hb⟩; have n0_ := Aside0.mk (Kd.Q_below (by (with_reducible repeat (first | apply Kd.Q_alloc | apply Kd.Q_drewN | apply Kd.Q_drew)); exact HO318.out) hb); have n1_ := Aside0.mk (below_step (by repeat (first | (with_reducible first | exact HB.out | apply below_alloc | apply pw_below_drewN | apply below_drew1) | exact HB.out)) hb); clear HO318; clear HB; have HO318 := n0_; have HB := n1_; clear n0_ n1_; (try clear hb); (try clear hb2); (try clear hk); (try clear hi)))
                go_meet
                case rel => exact ⟨_, ((t319.toList != t309.toList)), (by first | rfl | (simp; done) | (simp [*]; done) | (simp; exact (by intro l_; cases l_ <;> rfl : ∀ l_ : List UInt8, l_.isEmpty = !(l_ != [])) _)), H', ⟨by first | omega | exact Nat.le_refl _⟩, ⟨by repeat (first | (with_reducible first | exact HB.out | apply below_alloc | apply pw_below_drewN | apply below_drew1) | exact HB.out)⟩⟩
              · replace c21 := Bool.eq_false_iff.mpr c21
                subst c21
                have H1 : (laws_FnNormal.j0 k t309 true) = some r := by rw [if_neg (show ¬ (false = true) by decide)] at H; exact H
                clear H
                have H := H1
                clear H1
                have H' := Aside0.mk H
                clear H
                go_wp2_with (first | (go_at_call 26; (with_reducible refine (impl_PathOk.calls k t309 false _ A20.out).mono ?_); rintro e w28 ⟨rfl, hb⟩; have n0_ := Aside0.mk (below_step (by repeat (first | (with_reducible first | exact HB.out | apply below_alloc | apply pw_below_drewN | apply below_drew1) | exact HB.out)) hb); clear HB; have HB := n0_; clear n0_; (try clear hb); (try clear hb2); (try clear hk); (try clear hi)))
                go_meet
                case rel => exact ⟨_, (true), (by first | rfl | (simp; done) | (simp [*]; done) | (simp; exact (by intro l_; cases l_ <;> rfl : ∀ l_ : List UInt8, l_.isEmpty = !(l_ != [])) _)), H', ⟨by first | omega | exact Nat.le_refl _⟩, ⟨by repeat (first | (with_reducible first | exact HB.out | apply below_alloc | apply pw_below_drewN | apply below_drew1) | exact HB.out)⟩⟩
            · rw [if_neg c19] at H
              have c19b0 : (t313.toList == t309.toList) = false := beq_eq_false_iff_ne.mpr c19
              have c19b1 : (t313.toList != t309.toList) = true := bne_iff_ne.mpr c19
              (first | rw [c19b0] | (simp only [i64_w, i32_w]; rw [c19b0]) | rw [c19b1] | rw [c19b2] | skip)
              have H' := Aside0.mk H
              clear H
              go_wp2
              go_meet
              case rel => exact ⟨_, (true), (by first | rfl | (simp; done) | (simp [*]; done) | (simp; exact (by intro l_; cases l_ <;> rfl : ∀ l_ : List UInt8, l_.isEmpty = !(l_ != [])) _)), H', ⟨by first | omega | exact Nat.le_refl _⟩, ⟨by repeat (first | (with_reducible first | exact HB.out | apply below_alloc | apply pw_below_drewN | apply below_drew1) | exact HB.out)⟩⟩
          · replace c18 := Bool.eq_false_iff.mpr c18
            subst c18
            have H1 : (laws_FnNormal.j0 k t309 true) = some r := by rw [if_neg (show ¬ (false = true) by decide)] at H; exact H
            clear H
            have H := H1
            clear H1
            have H' := Aside0.mk H
            clear H
            go_wp2
            go_meet
            case rel => exact ⟨_, (true), (by first | rfl | (simp; done) | (simp [*]; done) | (simp; exact (by intro l_; cases l_ <;> rfl : ∀ l_ : List UInt8, l_.isEmpty = !(l_ != [])) _)), H', ⟨by first | omega | exact Nat.le_refl _⟩, ⟨by repeat (first | (with_reducible first | exact HB.out | apply below_alloc | apply pw_below_drewN | apply below_drew1) | exact HB.out)⟩⟩
        case rest =>
          clear HC13
          try clear c1
          try clear c2
          try clear p2
          try clear c3
          try clear c7
          try clear c7b0
          try clear c7b1
          try clear c7b2
          try clear c8
          try clear c11
          try clear c18
          try clear c19
          try clear c19b0
          try clear c19b1
          try clear c19b2
          try clear c20
          try clear c21
          try clear c25
          obtain ⟨kq, x56_12, rfl, HA, HJ12, HB⟩ := hcut
          cases kq with
          | zero => exact absurd HA.out (by simp [laws_FnNormal.j0])
          | succ kj12 =>
            have H := HA.out
            clear HA
            simp only [laws_FnNormal.j0] at H
            by_cases c29 : x56_12 = true
            · subst c29
              have H1 : (some false) = some r := by rw [if_pos rfl] at H; exact H
              clear H
              have H := H1
              clear H1
              obtain rfl := Option.some.inj H
              go_wp2
              go_ret
              exact ⟨by first | rfl | (simp [errW_none, errW_some] <;> rfl) | (simp [*, errW_none, errW_some] <;> rfl), by repeat (first | (with_reducible first | exact HB.out | apply below_alloc | apply pw_below_drewN | apply below_drew1) | exact HB.out)⟩
            · replace c29 := Bool.eq_false_iff.mpr c29
              subst c29
              have H1 : (if (t309.size : Int) > 40 then (some true) else (if t309.size + 5 ≤ 9223372036854775807 then ((impl_Normal.f kj12 (t309 ++ (⟨#[47, 113, 47, 46, 46]⟩ : ByteArray))).bind fun bt320 => (if bt320.2 = true then (if bt320.1.toList = t309.toList then (if t309.toList = ([47] : List UInt8) then (some true) else ((impl_Above.f kj12 t309).bind fun t322 => ((impl_Last.f kj12 t309).bind fun t323 => ((impl_PathJoin.f kj12 t322 t323).bind fun t324 => (some (t324.toList == t309.toList)))))) else (some false)) else (some false))) else (none))) = some r := by rw [if_neg (show ¬ (false = true) by decide)] at H; exact H
              clear H
              have H := H1
              clear H1
              by_cases c30 : (t309.size : Int) > 40
              · rw [if_pos c30] at H
                have c30b0 : decide (40 < (t309.size : Int)) = true := decide_eq_true c30
                have c30b1 : decide (40 < t309.size) = true := decide_eq_true (by omega)
                clear c30
                obtain rfl := Option.some.inj H
                go_wp2
                go_ret
                exact ⟨by first | rfl | (simp [errW_none, errW_some] <;> rfl) | (simp [*, errW_none, errW_some] <;> rfl), by repeat (first | (with_reducible first | exact HB.out | apply below_alloc | apply pw_below_drewN | apply below_drew1) | exact HB.out)⟩
              · rw [if_neg c30] at H
                have c30b0 : decide (40 < (t309.size : Int)) = false := decide_eq_false c30
                have c30b1 : decide (40 < t309.size) = false := decide_eq_false (by omega)
                clear c30
                by_cases c31 : t309.size + 5 ≤ 9223372036854775807
                · rw [if_pos c31] at H
                  have c31b0 := eq_true c31
                  have c31b1 : decide (t309.size + 5 ≤ 9223372036854775807) = true := decide_eq_true c31
                  try have c31b2 : (9223372036854775807 < t309.size + 5) = False := eq_false (Nat.not_lt.2 c31)
                  replace H := Option.bind_eq_some_iff.mp H
                  obtain ⟨⟨t320, t321⟩, A320, H⟩ := H
                  replace H : (if t321 = true then (if t320.toList = t309.toList then (if t309.toList = ([47] : List UInt8) then (some true) else ((impl_Above.f kj12 t309).bind fun t322 => ((impl_Last.f kj12 t309).bind fun t323 => ((impl_PathJoin.f kj12 t322 t323).bind fun t324 => (some (t324.toList == t309.toList)))))) else (some false)) else (some false)) = some r := H
                  have A32 := Aside0.mk A320
                  clear A320
                  by_cases c33 : t321 = true
                  · subst c33
                    have H1 : (if t320.toList = t309.toList then (if t309.toList = ([47] : List UInt8) then (some true) else ((impl_Above.f kj12 t309).bind fun t322 => ((impl_Last.f kj12 t309).bind fun t323 => ((impl_PathJoin.f kj12 t322 t323).bind fun t324 => (some (t324.toList == t309.toList)))))) else (some false)) = some r := by rw [if_pos rfl] at H; exact H
                    clear H
                    have H := H1
                    clear H1
                    by_cases c34 : t320.toList = t309.toList
                    · rw [if_pos c34] at H
                      have c34b0 : (t320.toList == t309.toList) = true := beq_iff_eq.mpr c34
                      have c34b1 : (t320.toList != t309.toList) = false := bne_eq_false_iff_eq.mpr c34
                      clear c34
                      by_cases c35 : t309.toList = ([47] : List UInt8)
                      · rw [if_pos c35] at H
                        have c35b0 : (t309.toList == ([47] : List UInt8)) = true := beq_iff_eq.mpr c35
                        have c35b1 : (t309.toList != ([47] : List UInt8)) = false := bne_eq_false_iff_eq.mpr c35
                        clear c35
                        obtain rfl := Option.some.inj H
                        go_wp2_with (first | ((with_reducible refine gate_callee (f := 19) rfl ?_); refine goesL_ (some 63) rfl rfl Try.func19 (by kernel_rfl) rfl #[.string (t309 ++ (⟨#[47, 113, 47, 46, 46]⟩ : ByteArray))] rfl (by (try simp only [List.map_toArray, List.map_cons, List.map_nil]); first | done | rfl | (simp only [List.length_drop, List.length_take]; rfl)) ?_; (with_reducible refine (impl_Normal.calls kj12 (t309 ++ (⟨#[47, 113, 47, 46, 46]⟩ : ByteArray)) t320 true _ A32.out).mono ?_); rintro e w36 ⟨rfl, hb⟩; refine ⟨_, rfl, ?_⟩; have n0_ := Aside0.mk (below_step (by repeat (first | (with_reducible first | exact HB.out | apply below_alloc | apply pw_below_drewN | apply below_drew1) | exact HB.out)) hb); clear HB; have HB := n0_; clear n0_; (try clear hb); (try clear hb2); (try clear hk); (try clear hi)))
                        go_ret
                        exact ⟨by first | rfl | (simp [errW_none, errW_some] <;> rfl) | (simp [*, errW_none, errW_some] <;> rfl), by repeat (first | (with_reducible first | exact HB.out | apply below_alloc | apply pw_below_drewN | apply below_drew1) | exact HB.out)⟩
                      · rw [if_neg c35] at H
                        have c35b0 : (t309.toList == ([47] : List UInt8)) = false := beq_eq_false_iff_ne.mpr c35
                        have c35b1 : (t309.toList != ([47] : List UInt8)) = true := bne_iff_ne.mpr c35
                        replace H := Option.bind_eq_some_iff.mp H
                        obtain ⟨t322, A370, H⟩ := H
                        replace H : ((impl_Last.f kj12 t309).bind fun t323 => ((impl_PathJoin.f kj12 t322 t323).bind fun t324 => (some (t324.toList == t309.toList)))) = some r := H
                        have A37 := Aside0.mk A370
                        clear A370
                        replace H := Option.bind_eq_some_iff.mp H
                        obtain ⟨t323, A380, H⟩ := H
                        replace H : ((impl_PathJoin.f kj12 t322 t323).bind fun t324 => (some (t324.toList == t309.toList))) = some r := H
                        have A38 := Aside0.mk A380
                        clear A380
                        replace H := Option.bind_eq_some_iff.mp H
                        obtain ⟨t324, A390, H⟩ := H
                        replace H : (some (t324.toList == t309.toList)) = some r := H
                        have A39 := Aside0.mk A390
                        clear A390
                        obtain rfl := Option.some.inj H
                        go_wp2_with (first | ((with_reducible refine gate_callee (f := 19) rfl ?_); refine goesL_ (some 63) rfl rfl Try.func19 (by kernel_rfl) rfl #[.string (t309 ++ (⟨#[47, 113, 47, 46, 46]⟩ : ByteArray))] rfl (by (try simp only [List.map_toArray, List.map_cons, List.map_nil]); first | done | rfl | (simp only [List.length_drop, List.length_take]; rfl)) ?_; (with_reducible refine (impl_Normal.calls kj12 (t309 ++ (⟨#[47, 113, 47, 46, 46]⟩ : ByteArray)) t320 true _ A32.out).mono ?_); rintro e w40 ⟨rfl, hb⟩; refine ⟨_, rfl, ?_⟩; have n0_ := Aside0.mk (below_step (by repeat (first | (with_reducible first | exact HB.out | apply below_alloc | apply pw_below_drewN | apply below_drew1) | exact HB.out)) hb); clear HB; have HB := n0_; clear n0_; (try clear hb); (try clear hb2); (try clear hk); (try clear hi)) | (go_at_call 17; (with_reducible refine (impl_Above.calls kj12 t309 t322 _ A37.out).mono ?_); rintro e w41 ⟨rfl, hb⟩; have n0_ := Aside0.mk (below_step (by repeat (first | (with_reducible first | exact HB.out | apply below_alloc | apply pw_below_drewN | apply below_drew1) | exact HB.out)) hb); clear HB; have HB := n0_; clear n0_; (try clear hb); (try clear hb2); (try clear hk); (try clear hi)) | (go_at_call 28; (with_reducible refine (impl_Last.calls kj12 t309 t323 _ A38.out).mono ?_); rintro e w42 ⟨rfl, hb⟩; have n0_ := Aside0.mk (below_step (by repeat (first | (with_reducible first | exact HB.out | apply below_alloc | apply pw_below_drewN | apply below_drew1) | exact HB.out)) hb); clear HB; have HB := n0_; clear n0_; (try clear hb); (try clear hb2); (try clear hk); (try clear hi)) | (go_at_call 15; (with_reducible refine (impl_PathJoin.calls kj12 t322 t323 t324 _ A39.out).mono ?_); rintro e w43 ⟨rfl, hb⟩; have n0_ := Aside0.mk (below_step (by repeat (first | (with_reducible first | exact HB.out | apply below_alloc | apply pw_below_drewN | apply below_drew1) | exact HB.out)) hb); clear HB; have HB := n0_; clear n0_; (try clear hb); (try clear hb2); (try clear hk); (try clear hi)))
                        go_ret
                        exact ⟨by first | rfl | (simp [errW_none, errW_some] <;> rfl) | (simp [*, errW_none, errW_some] <;> rfl), by repeat (first | (with_reducible first | exact HB.out | apply below_alloc | apply pw_below_drewN | apply below_drew1) | exact HB.out)⟩
                    · rw [if_neg c34] at H
                      have c34b0 : (t320.toList == t309.toList) = false := beq_eq_false_iff_ne.mpr c34
                      have c34b1 : (t320.toList != t309.toList) = true := bne_iff_ne.mpr c34
                      obtain rfl := Option.some.inj H
                      go_wp2_with (first | ((with_reducible refine gate_callee (f := 19) rfl ?_); refine goesL_ (some 63) rfl rfl Try.func19 (by kernel_rfl) rfl #[.string (t309 ++ (⟨#[47, 113, 47, 46, 46]⟩ : ByteArray))] rfl (by (try simp only [List.map_toArray, List.map_cons, List.map_nil]); first | done | rfl | (simp only [List.length_drop, List.length_take]; rfl)) ?_; (with_reducible refine (impl_Normal.calls kj12 (t309 ++ (⟨#[47, 113, 47, 46, 46]⟩ : ByteArray)) t320 true _ A32.out).mono ?_); rintro e w44 ⟨rfl, hb⟩; refine ⟨_, rfl, ?_⟩; have n0_ := Aside0.mk (below_step (by repeat (first | (with_reducible first | exact HB.out | apply below_alloc | apply pw_below_drewN | apply below_drew1) | exact HB.out)) hb); clear HB; have HB := n0_; clear n0_; (try clear hb); (try clear hb2); (try clear hk); (try clear hi)))
                      go_ret
                      exact ⟨by first | rfl | (simp [errW_none, errW_some] <;> rfl) | (simp [*, errW_none, errW_some] <;> rfl), by repeat (first | (with_reducible first | exact HB.out | apply below_alloc | apply pw_below_drewN | apply below_drew1) | exact HB.out)⟩
                  · replace c33 := Bool.eq_false_iff.mpr c33
                    subst c33
                    have H1 : (some false) = some r := by rw [if_neg (show ¬ (false = true) by decide)] at H; exact H
                    clear H
                    have H := H1
                    clear H1
                    obtain rfl := Option.some.inj H
                    go_wp2_with (first | ((with_reducible refine gate_callee (f := 19) rfl ?_); refine goesL_ (some 63) rfl rfl Try.func19 (by kernel_rfl) rfl #[.string (t309 ++ (⟨#[47, 113, 47, 46, 46]⟩ : ByteArray))] rfl (by (try simp only [List.map_toArray, List.map_cons, List.map_nil]); first | done | rfl | (simp only [List.length_drop, List.length_take]; rfl)) ?_; (with_reducible refine (impl_Normal.calls kj12 (t309 ++ (⟨#[47, 113, 47, 46, 46]⟩ : ByteArray)) t320 false _ A32.out).mono ?_); rintro e w45 ⟨rfl, hb⟩; refine ⟨_, rfl, ?_⟩; have n0_ := Aside0.mk (below_step (by repeat (first | (with_reducible first | exact HB.out | apply below_alloc | apply pw_below_drewN | apply below_drew1) | exact HB.out)) hb); clear HB; have HB := n0_; clear n0_; (try clear hb); (try clear hb2); (try clear hk); (try clear hi)))
                    go_ret
                    exact ⟨by first | rfl | (simp [errW_none, errW_some] <;> rfl) | (simp [*, errW_none, errW_some] <;> rfl), by repeat (first | (with_reducible first | exact HB.out | apply below_alloc | apply pw_below_drewN | apply below_drew1) | exact HB.out)⟩
                · rw [if_neg c31] at H
                  exact absurd H (by simp)
      · replace c11 := Bool.eq_false_iff.mpr c11
        subst c11
        have H1 : (some (t309.toList == ([] : List UInt8))) = some r := by rw [if_neg (show ¬ (false = true) by decide)] at H; exact H
        clear H
        have H := H1
        clear H1
        obtain rfl := Option.some.inj H
        go_enter Try.func8, Try.ntmps8
        go_wp2_with (first | ((with_reducible refine gate_callee (f := 20) rfl ?_); refine goesL_ (some 13) rfl rfl Try.func20 (by kernel_rfl) rfl #[.slice A0 l0.length c0] rfl (by (try simp only [List.map_toArray, List.map_cons, List.map_nil]); first | done | rfl | (simp only [List.length_drop, List.length_take]; rfl)) ?_; (with_reducible refine (laws_big.calls _ _ l0 false _ ?side1 ?side2 A2.out).mono ?_); (case side1 => repeat (first | exact HR0.out | (with_reducible refine Kd.C_alloc ?_ _) | (with_reducible refine Kd.C_drewN ?_ _) | (with_reducible refine Kd.C_drew ?_))); (case side2 => exact HC0.out); rintro e w' ⟨rfl, ⟨nd, rfl⟩⟩; refine ⟨_, rfl, ?_⟩) | ((with_reducible refine gate_callee (f := 25) rfl ?_); refine goesL_ (some 15) rfl rfl Try.func25 (by kernel_rfl) rfl #[.slice A0 l0.length c0] rfl (by (try simp only [List.map_toArray, List.map_cons, List.map_nil]); first | done | rfl | (simp only [List.length_drop, List.length_take]; rfl)) ?_; (with_reducible refine (spec_DrawNormal.calls k _ _ l0 t308 _ ?side1 ?side2 A4.out).mono ?_); (case side1 => repeat (first | exact HR0.out | (with_reducible refine Kd.C_alloc ?_ _) | (with_reducible refine Kd.C_drewN ?_ _) | (with_reducible refine Kd.C_drew ?_))); (case side2 => exact HC0.out); rintro e w46 ⟨rfl, hb⟩; refine ⟨_, rfl, ?_⟩; have n0_ := Aside0.mk (below_step (by repeat (first | (with_reducible first | exact HB.out | apply below_alloc | apply pw_below_drewN | apply below_drew1) | exact HB.out)) hb); clear HB; have HB := n0_; clear n0_; (try clear hb); (try clear hb2); (try clear hk); (try clear hi)) | ((with_reducible refine gate_callee (f := 19) rfl ?_); refine goesL_ (some 18) rfl rfl Try.func19 (by kernel_rfl) rfl #[.string t308] rfl (by (try simp only [List.map_toArray, List.map_cons, List.map_nil]); first | done | rfl | (simp only [List.length_drop, List.length_take]; rfl)) ?_; (with_reducible refine (impl_Normal.calls k t308 t309 false _ A5.out).mono ?_); rintro e w47 ⟨rfl, hb⟩; refine ⟨_, rfl, ?_⟩; have n0_ := Aside0.mk (below_step (by repeat (first | (with_reducible first | exact HB.out | apply below_alloc | apply pw_below_drewN | apply below_drew1) | exact HB.out)) hb); clear HB; have HB := n0_; clear n0_; (try clear hb); (try clear hb2); (try clear hk); (try clear hi)) | ((with_reducible refine gate_callee (f := 18) rfl ?_); refine goesL_ (some 23) rfl rfl Try.func18 (by kernel_rfl) rfl #[.string t308] rfl (by (try simp only [List.map_toArray, List.map_cons, List.map_nil]); first | done | rfl | (simp only [List.length_drop, List.length_take]; rfl)) ?_; (with_reducible refine (spec_Normal.calls k t308 t311 t312 _ A6.out).mono ?_); rintro e w48 ⟨rfl, hb⟩; refine ⟨_, rfl, ?_⟩; have n0_ := Aside0.mk (below_step (by repeat (first | (with_reducible first | exact HB.out | apply below_alloc | apply pw_below_drewN | apply below_drew1) | exact HB.out)) hb); clear HB; have HB := n0_; clear n0_; (try clear hb); (try clear hb2); (try clear hk); (try clear hi)))
        go_ret
        exact ⟨by first | rfl | (simp [errW_none, errW_some] <;> rfl) | (simp [*, errW_none, errW_some] <;> rfl), by repeat (first | (with_reducible first | exact HB.out | apply below_alloc | apply pw_below_drewN | apply below_drew1) | exact HB.out)⟩

/-- THE ONE PURE STATEMENT of laws_FnNormal: yours. -/
def laws_FnNormal.Pure : Prop := ∀ (l0 : List Int), l0.length ≤ maxLen → l0.length * 1 ≤ 140737488351232 → (∀ x ∈ l0, (Lit.int .u8 x).wf = true) → ∃ k, laws_FnNormal.f k l0 = some true
theorem laws_FnNormal.walk (P : laws_FnNormal.Pure) (a0 : Option Addr) (len0 cap0 : Nat) (z0 : List Int) (w : World) (w0 : (a0 = none ∧ len0 = 0 ∧ cap0 = 0 ∧ z0 = []) ∨ ∃ x, a0 = some x ∧ len0 ≤ cap0 ∧ cap0 ≤ maxLen ∧ z0.length = cap0 ∧ (∀ i, i < z0.length → w.cell? (x.add i) = some (.int .u8 (z0.getD i 0))) ∧ ∀ n ∈ z0, (Lit.int .u8 n).wf = true) (y0 : len0 * 1 ≤ 140737488351232) :
    Calls Try.prog 8 #[.slice a0 len0 cap0] w fun e w' => e = .returned (.bool true) ∧ Below w.heap.size w w' := by
  obtain ⟨l0, rfl, hr0, hm0, hw0, hc0⟩ := ReadsInt.ofRowC w0
  obtain ⟨k, h⟩ := P l0 hm0 y0 hw0
  refine (laws_FnNormal.calls k _ _ l0 true w (Kd.C_of_reads (d := (0 : Int)) (h1 := fun _ => rfl) hr0) hc0 h).mono ?_
  rintro e w' ⟨rfl, hd⟩
  exact ⟨rfl, hd⟩

end Go.Proofs.Ytbhgafobkneafaa.PFnNormal
