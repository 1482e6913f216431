-- Written by xprint.py, a program of this session over the kit's print. Not trusted: Lean checks it.
import Derived.Test.YtapliilimfgdjaaPFnExactShapeOkx0
import Derived.Test.YtapliilimfgdjaaPFnExactShapeOkx1
import Derived.Test.YtapliilimfgdjaaPFnExactShapeOkx2
import Derived.Test.YtapliilimfgdjaaPFnExactShapeOkx3
namespace Go.Proofs.Ytapliilimfgdjaa.PFnExactShapeOk
open Go.RowKit Go.Proofs.YtapliilimfgdjaaW.PrintWords Go.Proofs.YtapliilimfgdjaaW.PrintLast Go.Proofs.YtapliilimfgdjaaW.PrintMore
attribute [local go_sem] max2_int min2_int max_two min_two max_three min_three max_four min_four   -- for this text's walks alone
set_option linter.unusedVariables false
set_option linter.unusedSimpArgs false

/-! ### spec_ShapeOk: function 7 -/
mutual
def spec_ShapeOk.j0 : Nat → Bool → List (S40) → List ByteArray → Option (Bool)
 | 0, _, _, _ => none
 | k + 1, x28, x135000, x135001 => if x28 = true then (some false) else (spec_ShapeOk.l0 k 0 x135000 x135001)
def spec_ShapeOk.l0 : Nat → Int → List (S40) → List ByteArray → Option (Bool)
 | 0, _, _, _ => none
 | k + 1, x3, x135000, x135001 => if x3 < (x135000.length : Int) then (if 0 ≤ x3 then ((spec_NodeOk.f k ((rd_T40 x135000 x3).f0) ((rd_T40 x135000 x3).f1) ((rd_T40 x135000 x3).f2) ((rd_T40 x135000 x3).f3) ((rd_T40 x135000 x3).f4)).bind fun t139 => (if t139 = true then (spec_ShapeOk.l0 k (wrap64 (x3 + 1)) x135000 x135001) else (some false))) else (none)) else ((spec_l6Used.f k x135000 x135001).bind fun t140 => (if 0 ≤ (x135001.length : Int) then (if (x135001.length : Int) < (t140.length : Int) then (if (rd t140 (x135001.length : Int)) > 0 then (some false) else (spec_ShapeOk.l1 k t140 0 x135000 x135001)) else (none)) else (none)))
def spec_ShapeOk.l1 : Nat → List Int → Int → List (S40) → List ByteArray → Option (Bool)
 | 0, _, _, _, _ => none
 | k + 1, x4, x5, x135000, x135001 => if x5 < (x135001.length : Int) then (if 0 ≤ x5 then (if x5 < (x4.length : Int) then (if (rd x4 x5) > 1 then (some false) else (if (rd x4 x5) = 0 then (if (rdOf ByteArray.empty x135001 x5).toList = ([] : List UInt8) then (if ((rdOf ByteArray.empty x135001 x5).size : Int) > 16 then (some false) else (spec_ShapeOk.l1 k x4 (wrap64 (x5 + 1)) x135000 x135001)) else (some false)) else (if ((rdOf ByteArray.empty x135001 x5).size : Int) > 16 then (some false) else (spec_ShapeOk.l1 k x4 (wrap64 (x5 + 1)) x135000 x135001)))) else (none)) else (none)) else (spec_ShapeOk.l2 k 0 x135000 x135001)
def spec_ShapeOk.l2 : Nat → Int → List (S40) → List ByteArray → Option (Bool)
 | 0, _, _, _ => none
 | k + 1, x6, x135000, x135001 => if x6 < (x135000.length : Int) then (if 0 ≤ x6 then (spec_ShapeOk.l3 k x6 0 x135000 x135001 ((rd_T40 x135000 x6).f0) ((rd_T40 x135000 x6).f1) ((rd_T40 x135000 x6).f2) ((rd_T40 x135000 x6).f3) ((rd_T40 x135000 x6).f4)) else (none)) else (some true)
def spec_ShapeOk.l3 : Nat → Int → Int → List (S40) → List ByteArray → Int → Int → Int → Int → List Int → Option (Bool)
 | 0, _, _, _, _, _, _, _, _, _ => none
 | k + 1, x6, x8, x135000, x135001, x151000, x151001, x151002, x151003, x151004 => if x8 < (x151004.length : Int) then (if 0 ≤ x8 then (if 0 ≤ (rd x151004 x8) then (if (rd x151004 x8) < (x135001.length : Int) then ((spec_l6Long.f x151003 x8).bind fun t153 => (if ((rdOf ByteArray.empty x135001 (rd x151004 x8)).size : Int) = t153 then (spec_ShapeOk.l3 k x6 (wrap64 (x8 + 1)) x135000 x135001 x151000 x151001 x151002 x151003 x151004) else (some false))) else (none)) else (none)) else (none)) else (spec_ShapeOk.l2 k (wrap64 (x6 + 1)) x135000 x135001)
end
def spec_ShapeOk.f (k : Nat) (l0_0 : List (S40)) (l0_1 : List ByteArray) : Option (Bool) := (spec_l1In.f (l0_0.length : Int) 2 10).bind fun t135 => (if t135 = true then ((spec_l1In.f (l0_1.length : Int) 1 36).bind fun t136 => (if t136 = true then (if 0 < (l0_0.length : Int) then (spec_ShapeOk.j0 k (((rd_T40 l0_0 0).f0) != 2) l0_0 l0_1) else (none)) else (spec_ShapeOk.j0 k true l0_0 l0_1))) else (spec_ShapeOk.j0 k true l0_0 l0_1))
theorem spec_ShapeOk.mono_l : ∀ k, (∀ y0 y1 y2, LeO (spec_ShapeOk.j0 k y0 y1 y2) (spec_ShapeOk.j0 (k + 1) y0 y1 y2)) ∧ (∀ y0 y1 y2, LeO (spec_ShapeOk.l0 k y0 y1 y2) (spec_ShapeOk.l0 (k + 1) y0 y1 y2)) ∧ (∀ y0 y1 y2 y3, LeO (spec_ShapeOk.l1 k y0 y1 y2 y3) (spec_ShapeOk.l1 (k + 1) y0 y1 y2 y3)) ∧ (∀ y0 y1 y2, LeO (spec_ShapeOk.l2 k y0 y1 y2) (spec_ShapeOk.l2 (k + 1) y0 y1 y2)) ∧ (∀ y0 y1 y2 y3 y4 y5 y6 y7 y8, LeO (spec_ShapeOk.l3 k y0 y1 y2 y3 y4 y5 y6 y7 y8) (spec_ShapeOk.l3 (k + 1) y0 y1 y2 y3 y4 y5 y6 y7 y8))
 | 0 => ⟨fun _ _ _ r h => by simp [spec_ShapeOk.j0] at h, fun _ _ _ r h => by simp [spec_ShapeOk.l0] at h, fun _ _ _ _ r h => by simp [spec_ShapeOk.l1] at h, fun _ _ _ r h => by simp [spec_ShapeOk.l2] at h, fun _ _ _ _ _ _ _ _ _ r h => by simp [spec_ShapeOk.l3] at h⟩
 | k + 1 => by
  obtain ⟨ih0, ih1, ih2, ih3, ih4⟩ := spec_ShapeOk.mono_l k
  refine ⟨?_, ?_, ?_, ?_, ?_⟩
  ·intro y0 y1 y2
   unfold spec_ShapeOk.j0
   have m0_ := @spec_NodeOk.mono
   have m1_ := @spec_l6Used.mono
   exact mM
  ·intro y0 y1 y2
   unfold spec_ShapeOk.l0
   have m0_ := @spec_NodeOk.mono
   have m1_ := @spec_l6Used.mono
   exact mM
  ·intro y0 y1 y2 y3
   unfold spec_ShapeOk.l1
   have m0_ := @spec_NodeOk.mono
   have m1_ := @spec_l6Used.mono
   exact mM
  ·intro y0 y1 y2
   unfold spec_ShapeOk.l2
   have m0_ := @spec_NodeOk.mono
   have m1_ := @spec_l6Used.mono
   exact mM
  ·intro y0 y1 y2 y3 y4 y5 y6 y7 y8
   unfold spec_ShapeOk.l3
   have m0_ := @spec_NodeOk.mono
   have m1_ := @spec_l6Used.mono
   exact mM
theorem spec_ShapeOk.mono : ∀ a0 a1 k, LeO (spec_ShapeOk.f k a0 a1) (spec_ShapeOk.f (k + 1) a0 a1) := by
 intro a0 a1 k
 obtain ⟨ih0, ih1, ih2, ih3, ih4⟩ := spec_ShapeOk.mono_l k
 unfold spec_ShapeOk.f
 have m0_ := @spec_NodeOk.mono
 have m1_ := @spec_l6Used.mono
 exact mM
set_option maxHeartbeats 8000000 in
set_option maxRecDepth 100000 in
theorem spec_ShapeOk.calls (k : Nat) (A0_0 : Option Addr) (c0_0 : Nat) (l0_0 : List (S40)) (A0_1 : Option Addr) (c0_1 : Nat) (l0_1 : List ByteArray) (r : Bool) (w : World) (hr0_0 : Kd.C k40 w A0_0 l0_0.length l0_0) (hc0_0 : l0_0.length ≤ c0_0) (hr0_1 : Kd.C Kd.string w A0_1 l0_1.length l0_1) (hc0_1 : l0_1.length ≤ c0_1) (h : spec_ShapeOk.f k l0_0 l0_1 = some r) :
  Calls Try.prog 7 #[.agg #[.slice A0_0 l0_0.length c0_0, .slice A0_1 l0_1.length c0_1]] w fun e w' => e = .returned (.bool r) ∧ Below w.heap.size w w' := by
 have hu30 := Try.underlying30
 have hu40 := Try.underlying40
 have HR0_0 := aM hr0_0
 have HC0_0 := aM hc0_0
 clear hr0_0 hc0_0
 have HR0_1 := aM hr0_1
 have HC0_1 := aM hc0_1
 clear hr0_1 hc0_1
 have HB := aM (Below.refl w.heap.size w)
 unfold spec_ShapeOk.f at h
 have H := h
 clear h
 have HC2 := aM H
 clear H
 go_enter Try.func7, Try.ntmps7
 go_upto_region 1 with (first | ((with_reducible refine gate_dst (N := 1) rfl ?_); (try (refine gate_guard (by rfl) ?_; dsimp only)); refine box_event ?hg (N := 1) ?hd (cs := #[.slice A0_0 l0_0.length c0_0, .slice A0_1 l0_1.length c0_1]) (t := 30) ?hr ?_; (case hd => rfl); (case hg => rfl); (case hr => first | (go_simp; done) | (go_simp; rfl)); intro gb134 hg w3 hbox hb; have n_ := aI (sB HB hb) (aI (aM hbox) (aI (gE HB hg) (gE HB hg))); clear HB; obtain ⟨HB, BK134, GW134, GE134⟩ := n_; (try clear hb hbox hg)))
 repeat (go_quiet (first | ((with_reducible refine gate_dst (N := 1) rfl ?_); (try (refine gate_guard (by rfl) ?_; dsimp only)); refine box_event ?hg (N := 1) ?hd (cs := #[.slice A0_0 l0_0.length c0_0, .slice A0_1 l0_1.length c0_1]) (t := 30) ?hr ?_; (case hd => rfl); (case hg => rfl); (case hr => first | (go_simp; done) | (go_simp; rfl)); intro gb134 hg w3 hbox hb; have n_ := aI (sB HB hb) (aI (aM hbox) (aI (gE HB hg) (gE HB hg))); clear HB; obtain ⟨HB, BK134, GW134, GE134⟩ := n_; (try clear hb hbox hg))); go_upto_region 1 with (first | ((with_reducible refine gate_dst (N := 1) rfl ?_); (try (refine gate_guard (by rfl) ?_; dsimp only)); refine box_event ?hg (N := 1) ?hd (cs := #[.slice A0_0 l0_0.length c0_0, .slice A0_1 l0_1.length c0_1]) (t := 30) ?hr ?_; (case hd => rfl); (case hg => rfl); (case hr => first | (go_simp; done) | (go_simp; rfl)); intro gb134 hg w3 hbox hb; have n_ := aI (sB HB hb) (aI (aM hbox) (aI (gE HB hg) (gE HB hg))); clear HB; obtain ⟨HB, BK134, GW134, GE134⟩ := n_; (try clear hb hbox hg))))
 (try simp only [Act.put, List.setIfInBounds_toArray, List.set_cons_zero, List.set_cons_succ])
 go_cut [28] (fun v28 wc => ∃ (kq : Nat) (x28_1 : Bool), v28 = .bool x28_1 ∧ Aside0 (spec_ShapeOk.j0 kq x28_1 l0_0 l0_1 = some r) ∧ Aside0 (kq ≤ k) ∧ Aside0 (wc.heap[gb134]? = some (.cells #[(.slice A0_0 l0_0.length c0_0), (.slice A0_1 l0_1.length c0_1)] 30 (0, 0))) ∧ Aside0 (Below w.heap.size w wc))
 case first =>
  have H := HC2.out
  clear HC2
  replace H := Option.bind_eq_some_iff.mp H
  obtain ⟨t135, A40, H⟩ := H
  try dsimp only at H
  have A4 := aM A40
  clear A40
  by_cases c5 : t135 = true
  ·subst c5
   rw [if_pos rfl] at H
   replace H := Option.bind_eq_some_iff.mp H
   obtain ⟨t136, A60, H⟩ := H
   try dsimp only at H
   have A6 := aM A60
   clear A60
   by_cases c7 : t136 = true
   ·subst c7
    rw [if_pos rfl] at H
    by_cases c8 : 0 < (l0_0.length : Int)
    ·rw [if_pos c8] at H
     have c8b0 : decide (0 < (l0_0.length : Int)) = true := decide_eq_true c8
     have c8b1 : decide (0 < l0_0.length) = true := decide_eq_true (by omega)
     clear c8
     (first | rw [c8b0] | (simp only [i64_w, i32_w]; rw [c8b0]) | rw [c8b1] | rw [c8b2] | skip)
     have H' := aM H
     clear H
     have hcz9_0 := cZ0 BK134
     have hcz9_1 := cZ1 BK134
     have hfz9_0 := fZ BK134 0
     have hfz9_1 := fZ BK134 1
     go_wp2_with (first | (go_at_call 17; (with_reducible refine (spec_l1In.calls (l0_0.length : Int) 2 10 true _ A4.out).mono ?_); rintro e w' ⟨rfl, ⟨nd, rfl⟩⟩; (try first | exact ⟨rfl, _, World.drewN_drewN _ _ _⟩ | exact ⟨rfl, _, Eq.trans (World.drewN_drewN _ _ _) (congrArg (World.drewN _) (Nat.add_assoc _ _ _))⟩)) | (go_at_call 17; (with_reducible refine (spec_l1In.calls (l0_1.length : Int) 1 36 true _ A6.out).mono ?_); rintro e w' ⟨rfl, ⟨nd, rfl⟩⟩; (try first | exact ⟨rfl, _, World.drewN_drewN _ _ _⟩ | exact ⟨rfl, _, Eq.trans (World.drewN_drewN _ _ _) (congrArg (World.drewN _) (Nat.add_assoc _ _ _))⟩); have p137 : 0 ≤ (0 : Int) := (by omega); have q137 : 0 < (l0_0.length : Int) := dT; obtain ⟨ad137, A137_4, c137_4, e137, hx137_0, hx137_1, hx137_2, hx137_3, hx137_4, hl137_4, hi137_4⟩ := at_T40 HR0_0.out 0 p137 q137; cases e137; have qi137 : (0 < l0_0.length) = True := eq_true (by omega); (try rw [show ((0 : Int)).toNat = 0 from rfl] at hx137_0); (try rw [show 0 * 5 = 0 from rfl] at hx137_0); (try rw [Addr.add_zero'] at hx137_0); (try rw [show ((0 : Int)).toNat = 0 from rfl] at hx137_1); (try rw [show 0 * 5 = 0 from rfl] at hx137_1); (try rw [Addr.add_zero'] at hx137_1); (try rw [show ((0 : Int)).toNat = 0 from rfl] at hx137_2); (try rw [show 0 * 5 = 0 from rfl] at hx137_2); (try rw [Addr.add_zero'] at hx137_2); (try rw [show ((0 : Int)).toNat = 0 from rfl] at hx137_3); (try rw [show 0 * 5 = 0 from rfl] at hx137_3); (try rw [Addr.add_zero'] at hx137_3); (try rw [show ((0 : Int)).toNat = 0 from rfl] at hx137_4); (try rw [show 0 * 5 = 0 from rfl] at hx137_4); (try rw [Addr.add_zero'] at hx137_4); replace hx137_0 := (HB.out.cell (World.block_lt_of_cell? w _ hx137_0)).trans hx137_0; replace hx137_1 := (HB.out.cell (World.block_lt_of_cell? w _ hx137_1)).trans hx137_1; replace hx137_2 := (HB.out.cell (World.block_lt_of_cell? w _ hx137_2)).trans hx137_2; replace hx137_3 := (HB.out.cell (World.block_lt_of_cell? w _ hx137_3)).trans hx137_3; replace hx137_4 := (HB.out.cell (World.block_lt_of_cell? w _ hx137_4)).trans hx137_4; have HR137_4 := aM hi137_4; have HC137_4 := aM hl137_4; clear hi137_4 hl137_4; replace p137 := eq_true p137; replace q137 := eq_true q137))
     repeat (go_quiet (first | (go_at_call 17; (with_reducible refine (spec_l1In.calls (l0_0.length : Int) 2 10 true _ A4.out).mono ?_); rintro e w' ⟨rfl, ⟨nd, rfl⟩⟩; (try first | exact ⟨rfl, _, World.drewN_drewN _ _ _⟩ | exact ⟨rfl, _, Eq.trans (World.drewN_drewN _ _ _) (congrArg (World.drewN _) (Nat.add_assoc _ _ _))⟩)) | (go_at_call 17; (with_reducible refine (spec_l1In.calls (l0_1.length : Int) 1 36 true _ A6.out).mono ?_); rintro e w' ⟨rfl, ⟨nd, rfl⟩⟩; (try first | exact ⟨rfl, _, World.drewN_drewN _ _ _⟩ | exact ⟨rfl, _, Eq.trans (World.drewN_drewN _ _ _) (congrArg (World.drewN _) (Nat.add_assoc _ _ _))⟩); have p137 : 0 ≤ (0 : Int) := (by omega); have q137 : 0 < (l0_0.length : Int) := dT; obtain ⟨ad137, A137_4, c137_4, e137, hx137_0, hx137_1, hx137_2, hx137_3, hx137_4, hl137_4, hi137_4⟩ := at_T40 HR0_0.out 0 p137 q137; cases e137; have qi137 : (0 < l0_0.length) = True := eq_true (by omega); (try rw [show ((0 : Int)).toNat = 0 from rfl] at hx137_0); (try rw [show 0 * 5 = 0 from rfl] at hx137_0); (try rw [Addr.add_zero'] at hx137_0); (try rw [show ((0 : Int)).toNat = 0 from rfl] at hx137_1); (try rw [show 0 * 5 = 0 from rfl] at hx137_1); (try rw [Addr.add_zero'] at hx137_1); (try rw [show ((0 : Int)).toNat = 0 from rfl] at hx137_2); (try rw [show 0 * 5 = 0 from rfl] at hx137_2); (try rw [Addr.add_zero'] at hx137_2); (try rw [show ((0 : Int)).toNat = 0 from rfl] at hx137_3); (try rw [show 0 * 5 = 0 from rfl] at hx137_3); (try rw [Addr.add_zero'] at hx137_3); (try rw [show ((0 : Int)).toNat = 0 from rfl] at hx137_4); (try rw [show 0 * 5 = 0 from rfl] at hx137_4); (try rw [Addr.add_zero'] at hx137_4); replace hx137_0 := (HB.out.cell (World.block_lt_of_cell? w _ hx137_0)).trans hx137_0; replace hx137_1 := (HB.out.cell (World.block_lt_of_cell? w _ hx137_1)).trans hx137_1; replace hx137_2 := (HB.out.cell (World.block_lt_of_cell? w _ hx137_2)).trans hx137_2; replace hx137_3 := (HB.out.cell (World.block_lt_of_cell? w _ hx137_3)).trans hx137_3; replace hx137_4 := (HB.out.cell (World.block_lt_of_cell? w _ hx137_4)).trans hx137_4; have HR137_4 := aM hi137_4; have HC137_4 := aM hl137_4; clear hi137_4 hl137_4; replace p137 := eq_true p137; replace q137 := eq_true q137)); try go_wp2_with (first | (go_at_call 17; (with_reducible refine (spec_l1In.calls (l0_0.length : Int) 2 10 true _ A4.out).mono ?_); rintro e w' ⟨rfl, ⟨nd, rfl⟩⟩; (try first | exact ⟨rfl, _, World.drewN_drewN _ _ _⟩ | exact ⟨rfl, _, Eq.trans (World.drewN_drewN _ _ _) (congrArg (World.drewN _) (Nat.add_assoc _ _ _))⟩)) | (go_at_call 17; (with_reducible refine (spec_l1In.calls (l0_1.length : Int) 1 36 true _ A6.out).mono ?_); rintro e w' ⟨rfl, ⟨nd, rfl⟩⟩; (try first | exact ⟨rfl, _, World.drewN_drewN _ _ _⟩ | exact ⟨rfl, _, Eq.trans (World.drewN_drewN _ _ _) (congrArg (World.drewN _) (Nat.add_assoc _ _ _))⟩); have p137 : 0 ≤ (0 : Int) := (by omega); have q137 : 0 < (l0_0.length : Int) := dT; obtain ⟨ad137, A137_4, c137_4, e137, hx137_0, hx137_1, hx137_2, hx137_3, hx137_4, hl137_4, hi137_4⟩ := at_T40 HR0_0.out 0 p137 q137; cases e137; have qi137 : (0 < l0_0.length) = True := eq_true (by omega); (try rw [show ((0 : Int)).toNat = 0 from rfl] at hx137_0); (try rw [show 0 * 5 = 0 from rfl] at hx137_0); (try rw [Addr.add_zero'] at hx137_0); (try rw [show ((0 : Int)).toNat = 0 from rfl] at hx137_1); (try rw [show 0 * 5 = 0 from rfl] at hx137_1); (try rw [Addr.add_zero'] at hx137_1); (try rw [show ((0 : Int)).toNat = 0 from rfl] at hx137_2); (try rw [show 0 * 5 = 0 from rfl] at hx137_2); (try rw [Addr.add_zero'] at hx137_2); (try rw [show ((0 : Int)).toNat = 0 from rfl] at hx137_3); (try rw [show 0 * 5 = 0 from rfl] at hx137_3); (try rw [Addr.add_zero'] at hx137_3); (try rw [show ((0 : Int)).toNat = 0 from rfl] at hx137_4); (try rw [show 0 * 5 = 0 from rfl] at hx137_4); (try rw [Addr.add_zero'] at hx137_4); replace hx137_0 := (HB.out.cell (World.block_lt_of_cell? w _ hx137_0)).trans hx137_0; replace hx137_1 := (HB.out.cell (World.block_lt_of_cell? w _ hx137_1)).trans hx137_1; replace hx137_2 := (HB.out.cell (World.block_lt_of_cell? w _ hx137_2)).trans hx137_2; replace hx137_3 := (HB.out.cell (World.block_lt_of_cell? w _ hx137_3)).trans hx137_3; replace hx137_4 := (HB.out.cell (World.block_lt_of_cell? w _ hx137_4)).trans hx137_4; have HR137_4 := aM hi137_4; have HC137_4 := aM hl137_4; clear hi137_4 hl137_4; replace p137 := eq_true p137; replace q137 := eq_true q137)))
     go_meet
     case rel => exact ⟨_, ((((rd_T40 l0_0 0).f0) != 2)), (by first | rfl | (simp; done) | (simp [*]; done) | (simp; exact (by intro l_; cases l_ <;> rfl : ∀ l_ : List UInt8, l_.isEmpty = !(l_ != [])) _)), H', ⟨by first | omega | exact Nat.le_refl _⟩, ⟨kP BK134⟩, ⟨bB⟩⟩
    rw [if_neg c8] at H
    exact absurd H (by simp)
   replace c7 := Bool.eq_false_iff.mpr c7
   subst c7
   rw [if_neg (show ¬ (false = true) by decide)] at H
   have H' := aM H
   clear H
   have hcz10_0 := cZ0 BK134
   have hcz10_1 := cZ1 BK134
   have hfz10_0 := fZ BK134 0
   have hfz10_1 := fZ BK134 1
   go_wp2_with (first | (go_at_call 17; (with_reducible refine (spec_l1In.calls (l0_0.length : Int) 2 10 true _ A4.out).mono ?_); rintro e w' ⟨rfl, ⟨nd, rfl⟩⟩; (try first | exact ⟨rfl, _, World.drewN_drewN _ _ _⟩ | exact ⟨rfl, _, Eq.trans (World.drewN_drewN _ _ _) (congrArg (World.drewN _) (Nat.add_assoc _ _ _))⟩)) | (go_at_call 17; (with_reducible refine (spec_l1In.calls (l0_1.length : Int) 1 36 false _ A6.out).mono ?_); rintro e w' ⟨rfl, ⟨nd, rfl⟩⟩; (try first | exact ⟨rfl, _, World.drewN_drewN _ _ _⟩ | exact ⟨rfl, _, Eq.trans (World.drewN_drewN _ _ _) (congrArg (World.drewN _) (Nat.add_assoc _ _ _))⟩)))
   repeat (go_quiet (first | (go_at_call 17; (with_reducible refine (spec_l1In.calls (l0_0.length : Int) 2 10 true _ A4.out).mono ?_); rintro e w' ⟨rfl, ⟨nd, rfl⟩⟩; (try first | exact ⟨rfl, _, World.drewN_drewN _ _ _⟩ | exact ⟨rfl, _, Eq.trans (World.drewN_drewN _ _ _) (congrArg (World.drewN _) (Nat.add_assoc _ _ _))⟩)) | (go_at_call 17; (with_reducible refine (spec_l1In.calls (l0_1.length : Int) 1 36 false _ A6.out).mono ?_); rintro e w' ⟨rfl, ⟨nd, rfl⟩⟩; (try first | exact ⟨rfl, _, World.drewN_drewN _ _ _⟩ | exact ⟨rfl, _, Eq.trans (World.drewN_drewN _ _ _) (congrArg (World.drewN _) (Nat.add_assoc _ _ _))⟩))); try go_wp2_with (first | (go_at_call 17; (with_reducible refine (spec_l1In.calls (l0_0.length : Int) 2 10 true _ A4.out).mono ?_); rintro e w' ⟨rfl, ⟨nd, rfl⟩⟩; (try first | exact ⟨rfl, _, World.drewN_drewN _ _ _⟩ | exact ⟨rfl, _, Eq.trans (World.drewN_drewN _ _ _) (congrArg (World.drewN _) (Nat.add_assoc _ _ _))⟩)) | (go_at_call 17; (with_reducible refine (spec_l1In.calls (l0_1.length : Int) 1 36 false _ A6.out).mono ?_); rintro e w' ⟨rfl, ⟨nd, rfl⟩⟩; (try first | exact ⟨rfl, _, World.drewN_drewN _ _ _⟩ | exact ⟨rfl, _, Eq.trans (World.drewN_drewN _ _ _) (congrArg (World.drewN _) (Nat.add_assoc _ _ _))⟩))))
   go_meet
   case rel => exact ⟨_, (true), (by first | rfl | (simp; done) | (simp [*]; done) | (simp; exact (by intro l_; cases l_ <;> rfl : ∀ l_ : List UInt8, l_.isEmpty = !(l_ != [])) _)), H', ⟨by first | omega | exact Nat.le_refl _⟩, ⟨kP BK134⟩, ⟨bB⟩⟩
  replace c5 := Bool.eq_false_iff.mpr c5
  subst c5
  rw [if_neg (show ¬ (false = true) by decide)] at H
  have H' := aM H
  clear H
  have hcz11_0 := cZ0 BK134
  have hcz11_1 := cZ1 BK134
  have hfz11_0 := fZ BK134 0
  have hfz11_1 := fZ BK134 1
  go_wp2_with (first | (go_at_call 17; (with_reducible refine (spec_l1In.calls (l0_0.length : Int) 2 10 false _ A4.out).mono ?_); rintro e w' ⟨rfl, ⟨nd, rfl⟩⟩; (try first | exact ⟨rfl, _, World.drewN_drewN _ _ _⟩ | exact ⟨rfl, _, Eq.trans (World.drewN_drewN _ _ _) (congrArg (World.drewN _) (Nat.add_assoc _ _ _))⟩)))
  repeat (go_quiet (first | (go_at_call 17; (with_reducible refine (spec_l1In.calls (l0_0.length : Int) 2 10 false _ A4.out).mono ?_); rintro e w' ⟨rfl, ⟨nd, rfl⟩⟩; (try first | exact ⟨rfl, _, World.drewN_drewN _ _ _⟩ | exact ⟨rfl, _, Eq.trans (World.drewN_drewN _ _ _) (congrArg (World.drewN _) (Nat.add_assoc _ _ _))⟩))); try go_wp2_with (first | (go_at_call 17; (with_reducible refine (spec_l1In.calls (l0_0.length : Int) 2 10 false _ A4.out).mono ?_); rintro e w' ⟨rfl, ⟨nd, rfl⟩⟩; (try first | exact ⟨rfl, _, World.drewN_drewN _ _ _⟩ | exact ⟨rfl, _, Eq.trans (World.drewN_drewN _ _ _) (congrArg (World.drewN _) (Nat.add_assoc _ _ _))⟩))))
  go_meet
  case rel => exact ⟨_, (true), (by first | rfl | (simp; done) | (simp [*]; done) | (simp; exact (by intro l_; cases l_ <;> rfl : ∀ l_ : List UInt8, l_.isEmpty = !(l_ != [])) _)), H', ⟨by first | omega | exact Nat.le_refl _⟩, ⟨kP BK134⟩, ⟨bB⟩⟩
 case rest =>
  clear HC2
  try clear c1
  try clear p1
  try clear q1
  try clear hx1
  try clear qi1
  try clear p2
  try clear c5
  try clear c7
  try clear c8
  try clear c8b0
  try clear c8b1
  try clear c8b2
  try clear hcz10_0
  try clear hcz10_1
  try clear hcz11_0
  try clear hcz11_1
  try clear hcz9_0
  try clear hcz9_1
  try clear hfz10_0
  try clear hfz10_1
  try clear hfz11_0
  try clear hfz11_1
  try clear hfz9_0
  try clear hfz9_1
  try clear hx137_0
  try clear hx137_1
  try clear hx137_2
  try clear hx137_3
  try clear hx137_4
  try clear p137
  try clear q137
  obtain ⟨kq, x28_1, rfl, HA, HJ1, BK134, HB⟩ := hcut
  cases kq with
  | zero => exact absurd HA.out (by simp [spec_ShapeOk.j0])
  | succ kj1 =>
   have H := HA.out
   clear HA
   simp only [spec_ShapeOk.j0] at H
   by_cases c12 : x28_1 = true
   ·subst c12
    rw [if_pos rfl] at H
    obtain rfl := Option.some.inj H
    go_wp2
    repeat (go_quiet (fail); try go_wp2)
    go_ret
    exact ⟨eW, bB⟩
   ·replace c12 := Bool.eq_false_iff.mpr c12
    subst c12
    rw [if_neg (show ¬ (false = true) by decide)] at H
    have H' := aM H
    clear H
    go_wp2
    repeat (go_quiet (fail); try go_wp2)
    go_loopg [3] kj1 (fun kq v3 w' => ∃ (x3_2 : Int), v3 = .int .i64 x3_2 ∧ Aside0 (spec_ShapeOk.l0 kq x3_2 l0_0 l0_1 = some r) ∧ Aside0 (kq ≤ kj1) ∧ Aside0 (w'.heap[gb134]? = some (.cells #[(.slice A0_0 l0_0.length c0_0), (.slice A0_1 l0_1.length c0_1)] 30 (0, 0))) ∧ Aside0 (Below w.heap.size w w'))
    case atStart => exact ⟨(0), (by first | rfl | (simp; done) | (simp [*]; done) | (simp; exact (by intro l_; cases l_ <;> rfl : ∀ l_ : List UInt8, l_.isEmpty = !(l_ != [])) _)), H', ⟨Nat.le_refl _⟩, ⟨kP BK134⟩, ⟨bB⟩⟩
    case round =>
     clear H'
     try clear c1
     try clear p1
     try clear q1
     try clear hx1
     try clear qi1
     try clear p2
     try clear c5
     try clear c7
     try clear c8
     try clear c8b0
     try clear c8b1
     try clear c8b2
     try clear c12
     try clear hcz10_0
     try clear hcz10_1
     try clear hcz11_0
     try clear hcz11_1
     try clear hcz9_0
     try clear hcz9_1
     try clear hfz10_0
     try clear hfz10_1
     try clear hfz11_0
     try clear hfz11_1
     try clear hfz9_0
     try clear hfz9_1
     try clear hx137_0
     try clear hx137_1
     try clear hx137_2
     try clear hx137_3
     try clear hx137_4
     try clear p1
     try clear p137
     try clear p2
     try clear q1
     try clear q137
     obtain ⟨x3_2, rfl, HA, HK2, BK134, HB⟩ := hrel
     cases gk with
     | zero => exact absurd HA.out (by simp [spec_ShapeOk.l0])
     | succ k2 =>
      have H := HA.out
      clear HA
      simp only [spec_ShapeOk.l0] at H
      by_cases c13 : x3_2 < (l0_0.length : Int)
      ·rw [if_pos c13] at H
       have c13b0 : decide (x3_2 < (l0_0.length : Int)) = true := decide_eq_true c13
       clear c13
       by_cases c14 : 0 ≤ x3_2
       ·rw [if_pos c14] at H
        have c14b0 : decide (0 ≤ x3_2) = true := decide_eq_true c14
        clear c14
        replace H := Option.bind_eq_some_iff.mp H
        obtain ⟨t139, A150, H⟩ := H
        try dsimp only at H
        have A15 := aM A150
        clear A150
        by_cases c16 : t139 = true
        ·subst c16
         rw [if_pos rfl] at H
         have H' := aM H
         clear H
         have hcz17_0 := cZ0 BK134
         have hcz17_1 := cZ1 BK134
         have hfz17_0 := fZ BK134 0
         have hfz17_1 := fZ BK134 1
         have p138 : 0 ≤ (x3_2 : Int) := dT
         have q138 : x3_2 < (l0_0.length : Int) := dT
         obtain ⟨ad138, A138_4, c138_4, e138, hx138_0, hx138_1, hx138_2, hx138_3, hx138_4, hl138_4, hi138_4⟩ := at_T40 HR0_0.out x3_2 p138 q138
         cases e138
         replace hx138_0 := (HB.out.cell (World.block_lt_of_cell? w _ hx138_0)).trans hx138_0
         replace hx138_1 := (HB.out.cell (World.block_lt_of_cell? w _ hx138_1)).trans hx138_1
         replace hx138_2 := (HB.out.cell (World.block_lt_of_cell? w _ hx138_2)).trans hx138_2
         replace hx138_3 := (HB.out.cell (World.block_lt_of_cell? w _ hx138_3)).trans hx138_3
         replace hx138_4 := (HB.out.cell (World.block_lt_of_cell? w _ hx138_4)).trans hx138_4
         have HR138_4 := aM hi138_4
         have HC138_4 := aM hl138_4
         clear hi138_4 hl138_4
         replace p138 := eq_true p138
         replace q138 := eq_true q138
         go_wp2_with (first | (go_at_call 18; (with_reducible refine (spec_NodeOk.calls k2 ((rd_T40 l0_0 x3_2).f0) ((rd_T40 l0_0 x3_2).f1) ((rd_T40 l0_0 x3_2).f2) ((rd_T40 l0_0 x3_2).f3) _ _ ((rd_T40 l0_0 x3_2).f4) true _ ?side1 ?side2 A15.out).mono ?_); (case side1 => exact cS HR138_4 HB); (case side2 => exact HC138_4.out); rintro e w18 ⟨rfl, hb⟩; have n_ := aI (kB BK134 hb) (sB HB hb); clear BK134 HB; obtain ⟨BK134, HB⟩ := n_; (try clear hb)))
         repeat (go_quiet (first | (go_at_call 18; (with_reducible refine (spec_NodeOk.calls k2 ((rd_T40 l0_0 x3_2).f0) ((rd_T40 l0_0 x3_2).f1) ((rd_T40 l0_0 x3_2).f2) ((rd_T40 l0_0 x3_2).f3) _ _ ((rd_T40 l0_0 x3_2).f4) true _ ?side1 ?side2 A15.out).mono ?_); (case side1 => exact cS HR138_4 HB); (case side2 => exact HC138_4.out); rintro e w18 ⟨rfl, hb⟩; have n_ := aI (kB BK134 hb) (sB HB hb); clear BK134 HB; obtain ⟨BK134, HB⟩ := n_; (try clear hb))); try go_wp2_with (first | (go_at_call 18; (with_reducible refine (spec_NodeOk.calls k2 ((rd_T40 l0_0 x3_2).f0) ((rd_T40 l0_0 x3_2).f1) ((rd_T40 l0_0 x3_2).f2) ((rd_T40 l0_0 x3_2).f3) _ _ ((rd_T40 l0_0 x3_2).f4) true _ ?side1 ?side2 A15.out).mono ?_); (case side1 => exact cS HR138_4 HB); (case side2 => exact HC138_4.out); rintro e w18 ⟨rfl, hb⟩; have n_ := aI (kB BK134 hb) (sB HB hb); clear BK134 HB; obtain ⟨BK134, HB⟩ := n_; (try clear hb))))
         go_roundg k2
         case measure => have := HJ1.out; have := HK2.out; omega
         case rel => exact ⟨(wrap64 (x3_2 + 1)), (by first | rfl | (simp; done) | (simp [*]; done) | (simp; exact (by intro l_; cases l_ <;> rfl : ∀ l_ : List UInt8, l_.isEmpty = !(l_ != [])) _)), H', ⟨by have := HJ1.out; have := HK2.out; omega⟩, ⟨kP BK134⟩, ⟨bB⟩⟩
        ·replace c16 := Bool.eq_false_iff.mpr c16
         subst c16
         rw [if_neg (show ¬ (false = true) by decide)] at H
         obtain rfl := Option.some.inj H
         have hcz19_0 := cZ0 BK134
         have hcz19_1 := cZ1 BK134
         have hfz19_0 := fZ BK134 0
         have hfz19_1 := fZ BK134 1
         have p138 : 0 ≤ (x3_2 : Int) := dT
         have q138 : x3_2 < (l0_0.length : Int) := dT
         obtain ⟨ad138, A138_4, c138_4, e138, hx138_0, hx138_1, hx138_2, hx138_3, hx138_4, hl138_4, hi138_4⟩ := at_T40 HR0_0.out x3_2 p138 q138
         cases e138
         replace hx138_0 := (HB.out.cell (World.block_lt_of_cell? w _ hx138_0)).trans hx138_0
         replace hx138_1 := (HB.out.cell (World.block_lt_of_cell? w _ hx138_1)).trans hx138_1
         replace hx138_2 := (HB.out.cell (World.block_lt_of_cell? w _ hx138_2)).trans hx138_2
         replace hx138_3 := (HB.out.cell (World.block_lt_of_cell? w _ hx138_3)).trans hx138_3
         replace hx138_4 := (HB.out.cell (World.block_lt_of_cell? w _ hx138_4)).trans hx138_4
         have HR138_4 := aM hi138_4
         have HC138_4 := aM hl138_4
         clear hi138_4 hl138_4
         replace p138 := eq_true p138
         replace q138 := eq_true q138
         go_wp2_with (first | (go_at_call 18; (with_reducible refine (spec_NodeOk.calls k2 ((rd_T40 l0_0 x3_2).f0) ((rd_T40 l0_0 x3_2).f1) ((rd_T40 l0_0 x3_2).f2) ((rd_T40 l0_0 x3_2).f3) _ _ ((rd_T40 l0_0 x3_2).f4) false _ ?side1 ?side2 A15.out).mono ?_); (case side1 => exact cS HR138_4 HB); (case side2 => exact HC138_4.out); rintro e w20 ⟨rfl, hb⟩; have n_ := aI (kB BK134 hb) (sB HB hb); clear BK134 HB; obtain ⟨BK134, HB⟩ := n_; (try clear hb)))
         repeat (go_quiet (first | (go_at_call 18; (with_reducible refine (spec_NodeOk.calls k2 ((rd_T40 l0_0 x3_2).f0) ((rd_T40 l0_0 x3_2).f1) ((rd_T40 l0_0 x3_2).f2) ((rd_T40 l0_0 x3_2).f3) _ _ ((rd_T40 l0_0 x3_2).f4) false _ ?side1 ?side2 A15.out).mono ?_); (case side1 => exact cS HR138_4 HB); (case side2 => exact HC138_4.out); rintro e w20 ⟨rfl, hb⟩; have n_ := aI (kB BK134 hb) (sB HB hb); clear BK134 HB; obtain ⟨BK134, HB⟩ := n_; (try clear hb))); try go_wp2_with (first | (go_at_call 18; (with_reducible refine (spec_NodeOk.calls k2 ((rd_T40 l0_0 x3_2).f0) ((rd_T40 l0_0 x3_2).f1) ((rd_T40 l0_0 x3_2).f2) ((rd_T40 l0_0 x3_2).f3) _ _ ((rd_T40 l0_0 x3_2).f4) false _ ?side1 ?side2 A15.out).mono ?_); (case side1 => exact cS HR138_4 HB); (case side2 => exact HC138_4.out); rintro e w20 ⟨rfl, hb⟩; have n_ := aI (kB BK134 hb) (sB HB hb); clear BK134 HB; obtain ⟨BK134, HB⟩ := n_; (try clear hb))))
         go_ret
         exact ⟨eW, bB⟩
       ·rw [if_neg c14] at H
        exact absurd H (by simp)
      ·rw [if_neg c13] at H
       have c13b0 : decide (x3_2 < (l0_0.length : Int)) = false := decide_eq_false c13
       clear c13
       replace H := Option.bind_eq_some_iff.mp H
       obtain ⟨t140, A210, H⟩ := H
       try dsimp only at H
       have A21 := aM A210
       clear A210
       by_cases c22 : 0 ≤ (l0_1.length : Int)
       ·rw [if_pos c22] at H
        have c22b0 : decide (0 ≤ (l0_1.length : Int)) = true := decide_eq_true c22
        have c22b1 : decide (0 ≤ l0_1.length) = true := decide_eq_true (by omega)
        clear c22
        by_cases c23 : (l0_1.length : Int) < (t140.length : Int)
        ·rw [if_pos c23] at H
         have c23b0 : decide ((l0_1.length : Int) < (t140.length : Int)) = true := decide_eq_true c23
         have c23b1 : decide (l0_1.length < t140.length) = true := decide_eq_true (Int.ofNat_lt.mp c23)
         clear c23
         by_cases c24 : (rd t140 (l0_1.length : Int)) > 0
         ·rw [if_pos c24] at H
          have c24b0 : decide (0 < (rd t140 (l0_1.length : Int))) = true := decide_eq_true c24
          clear c24
          obtain rfl := Option.some.inj H
          have hcz25_0 := cZ0 BK134
          have hcz25_1 := cZ1 BK134
          have hfz25_0 := fZ BK134 0
          have hfz25_1 := fZ BK134 1
          go_wp2_with (first | (go_at_call 19; (with_reducible refine (spec_l6Used.calls k2 _ _ l0_0 _ _ l0_1 t140 _ ?side1 ?side2 ?side3 ?side4 A21.out).mono ?_); (case side1 => exact cS HR0_0 HB); (case side2 => exact HC0_0.out); (case side3 => exact cS HR0_1 HB); (case side4 => exact HC0_1.out); rintro e w26 ⟨v141, rfl, ho0, hb⟩; have n_ := aI (lR HB ho0) (aI (kB BK134 hb) (sB HB hb)); clear BK134 HB; obtain ⟨HO142, BK134, HB⟩ := n_; (try clear hb ho0); have hcz27_0 := cZ0 BK134; have hcz27_1 := cZ1 BK134; have hfz27_0 := fZ BK134 0; have hfz27_1 := fZ BK134 1; obtain ⟨Ao28, co28, eo28⟩ := Kd.R_slice HO142.out; subst eo28; have p143 : 0 ≤ ((l0_1.length : Int) : Int) := dT; have q143 : (l0_1.length : Int) < (t140.length : Int) := dT; obtain ⟨ad143, e143, hx143_0⟩ := Kd.at_int (Kd.R_reads' HO142.out).2.2 (l0_1.length : Int) p143 q143; cases e143; (try simp only [Go.IntWalk.toNatUp] at hx143_0); replace p143 := eq_true p143; replace q143 := eq_true q143))
          repeat (go_quiet (first | (go_at_call 19; (with_reducible refine (spec_l6Used.calls k2 _ _ l0_0 _ _ l0_1 t140 _ ?side1 ?side2 ?side3 ?side4 A21.out).mono ?_); (case side1 => exact cS HR0_0 HB); (case side2 => exact HC0_0.out); (case side3 => exact cS HR0_1 HB); (case side4 => exact HC0_1.out); rintro e w26 ⟨v141, rfl, ho0, hb⟩; have n_ := aI (lR HB ho0) (aI (kB BK134 hb) (sB HB hb)); clear BK134 HB; obtain ⟨HO142, BK134, HB⟩ := n_; (try clear hb ho0); have hcz27_0 := cZ0 BK134; have hcz27_1 := cZ1 BK134; have hfz27_0 := fZ BK134 0; have hfz27_1 := fZ BK134 1; obtain ⟨Ao28, co28, eo28⟩ := Kd.R_slice HO142.out; subst eo28; have p143 : 0 ≤ ((l0_1.length : Int) : Int) := dT; have q143 : (l0_1.length : Int) < (t140.length : Int) := dT; obtain ⟨ad143, e143, hx143_0⟩ := Kd.at_int (Kd.R_reads' HO142.out).2.2 (l0_1.length : Int) p143 q143; cases e143; (try simp only [Go.IntWalk.toNatUp] at hx143_0); replace p143 := eq_true p143; replace q143 := eq_true q143)); try go_wp2_with (first | (go_at_call 19; (with_reducible refine (spec_l6Used.calls k2 _ _ l0_0 _ _ l0_1 t140 _ ?side1 ?side2 ?side3 ?side4 A21.out).mono ?_); (case side1 => exact cS HR0_0 HB); (case side2 => exact HC0_0.out); (case side3 => exact cS HR0_1 HB); (case side4 => exact HC0_1.out); rintro e w26 ⟨v141, rfl, ho0, hb⟩; have n_ := aI (lR HB ho0) (aI (kB BK134 hb) (sB HB hb)); clear BK134 HB; obtain ⟨HO142, BK134, HB⟩ := n_; (try clear hb ho0); have hcz27_0 := cZ0 BK134; have hcz27_1 := cZ1 BK134; have hfz27_0 := fZ BK134 0; have hfz27_1 := fZ BK134 1; obtain ⟨Ao28, co28, eo28⟩ := Kd.R_slice HO142.out; subst eo28; have p143 : 0 ≤ ((l0_1.length : Int) : Int) := dT; have q143 : (l0_1.length : Int) < (t140.length : Int) := dT; obtain ⟨ad143, e143, hx143_0⟩ := Kd.at_int (Kd.R_reads' HO142.out).2.2 (l0_1.length : Int) p143 q143; cases e143; (try simp only [Go.IntWalk.toNatUp] at hx143_0); replace p143 := eq_true p143; replace q143 := eq_true q143)))
          go_ret
          exact ⟨eW, bB⟩
         ·rw [if_neg c24] at H
          have c24b0 : decide (0 < (rd t140 (l0_1.length : Int))) = false := decide_eq_false c24
          clear c24
          have H' := aM H
          clear H
          have hcz29_0 := cZ0 BK134
          have hcz29_1 := cZ1 BK134
          have hfz29_0 := fZ BK134 0
          have hfz29_1 := fZ BK134 1
          go_wp2_with (first | (go_at_call 19; (with_reducible refine (spec_l6Used.calls k2 _ _ l0_0 _ _ l0_1 t140 _ ?side1 ?side2 ?side3 ?side4 A21.out).mono ?_); (case side1 => exact cS HR0_0 HB); (case side2 => exact HC0_0.out); (case side3 => exact cS HR0_1 HB); (case side4 => exact HC0_1.out); rintro e w30 ⟨v141, rfl, ho0, hb⟩; have n_ := aI (lR HB ho0) (aI (kB BK134 hb) (sB HB hb)); clear BK134 HB; obtain ⟨HO142, BK134, HB⟩ := n_; (try clear hb ho0); have hcz31_0 := cZ0 BK134; have hcz31_1 := cZ1 BK134; have hfz31_0 := fZ BK134 0; have hfz31_1 := fZ BK134 1; obtain ⟨Ao32, co32, eo32⟩ := Kd.R_slice HO142.out; subst eo32; have p143 : 0 ≤ ((l0_1.length : Int) : Int) := dT; have q143 : (l0_1.length : Int) < (t140.length : Int) := dT; obtain ⟨ad143, e143, hx143_0⟩ := Kd.at_int (Kd.R_reads' HO142.out).2.2 (l0_1.length : Int) p143 q143; cases e143; (try simp only [Go.IntWalk.toNatUp] at hx143_0); replace p143 := eq_true p143; replace q143 := eq_true q143))
          repeat (go_quiet (first | (go_at_call 19; (with_reducible refine (spec_l6Used.calls k2 _ _ l0_0 _ _ l0_1 t140 _ ?side1 ?side2 ?side3 ?side4 A21.out).mono ?_); (case side1 => exact cS HR0_0 HB); (case side2 => exact HC0_0.out); (case side3 => exact cS HR0_1 HB); (case side4 => exact HC0_1.out); rintro e w30 ⟨v141, rfl, ho0, hb⟩; have n_ := aI (lR HB ho0) (aI (kB BK134 hb) (sB HB hb)); clear BK134 HB; obtain ⟨HO142, BK134, HB⟩ := n_; (try clear hb ho0); have hcz31_0 := cZ0 BK134; have hcz31_1 := cZ1 BK134; have hfz31_0 := fZ BK134 0; have hfz31_1 := fZ BK134 1; obtain ⟨Ao32, co32, eo32⟩ := Kd.R_slice HO142.out; subst eo32; have p143 : 0 ≤ ((l0_1.length : Int) : Int) := dT; have q143 : (l0_1.length : Int) < (t140.length : Int) := dT; obtain ⟨ad143, e143, hx143_0⟩ := Kd.at_int (Kd.R_reads' HO142.out).2.2 (l0_1.length : Int) p143 q143; cases e143; (try simp only [Go.IntWalk.toNatUp] at hx143_0); replace p143 := eq_true p143; replace q143 := eq_true q143)); try go_wp2_with (first | (go_at_call 19; (with_reducible refine (spec_l6Used.calls k2 _ _ l0_0 _ _ l0_1 t140 _ ?side1 ?side2 ?side3 ?side4 A21.out).mono ?_); (case side1 => exact cS HR0_0 HB); (case side2 => exact HC0_0.out); (case side3 => exact cS HR0_1 HB); (case side4 => exact HC0_1.out); rintro e w30 ⟨v141, rfl, ho0, hb⟩; have n_ := aI (lR HB ho0) (aI (kB BK134 hb) (sB HB hb)); clear BK134 HB; obtain ⟨HO142, BK134, HB⟩ := n_; (try clear hb ho0); have hcz31_0 := cZ0 BK134; have hcz31_1 := cZ1 BK134; have hfz31_0 := fZ BK134 0; have hfz31_1 := fZ BK134 1; obtain ⟨Ao32, co32, eo32⟩ := Kd.R_slice HO142.out; subst eo32; have p143 : 0 ≤ ((l0_1.length : Int) : Int) := dT; have q143 : (l0_1.length : Int) < (t140.length : Int) := dT; obtain ⟨ad143, e143, hx143_0⟩ := Kd.at_int (Kd.R_reads' HO142.out).2.2 (l0_1.length : Int) p143 q143; cases e143; (try simp only [Go.IntWalk.toNatUp] at hx143_0); replace p143 := eq_true p143; replace q143 := eq_true q143)))
          go_loopg [5] k2 (fun kq v5 w' => ∃ (x5_3 : Int), v5 = .int .i64 x5_3 ∧ Aside0 (spec_ShapeOk.l1 kq t140 x5_3 l0_0 l0_1 = some r) ∧ Aside0 (kq ≤ k2) ∧ Aside0 (Kd.R (Kd.int .i64) 3 w' w.heap.size (fun _ => True) (.slice (some ad143) t140.length co32) t140) ∧ Aside0 (w'.heap[gb134]? = some (.cells #[(.slice A0_0 l0_0.length c0_0), (.slice A0_1 l0_1.length c0_1)] 30 (0, 0))) ∧ Aside0 (Below w.heap.size w w'))
          case atStart => exact ⟨(0), (by first | rfl | (simp; done) | (simp [*]; done) | (simp; exact (by intro l_; cases l_ <;> rfl : ∀ l_ : List UInt8, l_.isEmpty = !(l_ != [])) _)), H', ⟨Nat.le_refl _⟩, ⟨rP HO142.out⟩, ⟨kP BK134⟩, ⟨bB⟩⟩
          case round =>
           clear H'
           try clear c1
           try clear p1
           try clear q1
           try clear hx1
           try clear qi1
           try clear c2
           try clear p2
           try clear c5
           try clear p6
           try clear c7
           try clear c8
           try clear c8b0
           try clear c8b1
           try clear c8b2
           try clear c12
           try clear c13
           try clear c13b0
           try clear p13
           try clear q13
           try clear hx13
           try clear qi13
           try clear c14
           try clear c14b0
           try clear p14
           try clear q14
           try clear hx14
           try clear c16
           try clear c22
           try clear c22b0
           try clear c22b1
           try clear c23
           try clear c23b0
           try clear c23b1
           try clear c24
           try clear c24b0
           try clear hcz10_0
           try clear hcz10_1
           try clear hcz11_0
           try clear hcz11_1
           try clear hcz17_0
           try clear hcz17_1
           try clear hcz19_0
           try clear hcz19_1
           try clear hcz25_0
           try clear hcz25_1
           try clear hcz27_0
           try clear hcz27_1
           try clear hcz29_0
           try clear hcz29_1
           try clear hcz31_0
           try clear hcz31_1
           try clear hcz9_0
           try clear hcz9_1
           try clear hfz10_0
           try clear hfz10_1
           try clear hfz11_0
           try clear hfz11_1
           try clear hfz17_0
           try clear hfz17_1
           try clear hfz19_0
           try clear hfz19_1
           try clear hfz25_0
           try clear hfz25_1
           try clear hfz27_0
           try clear hfz27_1
           try clear hfz29_0
           try clear hfz29_1
           try clear hfz31_0
           try clear hfz31_1
           try clear hfz9_0
           try clear hfz9_1
           try clear hx137_0
           try clear hx137_1
           try clear hx137_2
           try clear hx137_3
           try clear hx137_4
           try clear hx138_0
           try clear hx138_1
           try clear hx138_2
           try clear hx138_3
           try clear hx138_4
           try clear hx143_0
           try clear p1
           try clear p137
           try clear p138
           try clear p143
           try clear p2
           try clear q1
           try clear q137
           try clear q138
           try clear q143
           obtain ⟨x5_3, rfl, HA, HK3, HO_4, BK134, HB⟩ := hrel
           cases gk with
           | zero => exact absurd HA.out (by simp [spec_ShapeOk.l1])
           | succ k3 =>
            have H := HA.out
            clear HA
            simp only [spec_ShapeOk.l1] at H
            by_cases c33 : x5_3 < (l0_1.length : Int)
            ·rw [if_pos c33] at H
             have c33b0 : decide (x5_3 < (l0_1.length : Int)) = true := decide_eq_true c33
             clear c33
             by_cases c34 : 0 ≤ x5_3
             ·rw [if_pos c34] at H
              have c34b0 : decide (0 ≤ x5_3) = true := decide_eq_true c34
              clear c34
              by_cases c35 : x5_3 < (t140.length : Int)
              ·rw [if_pos c35] at H
               have c35b0 : decide (x5_3 < (t140.length : Int)) = true := decide_eq_true c35
               clear c35
               by_cases c36 : (rd t140 x5_3) > 1
               ·rw [if_pos c36] at H
                have c36b0 : decide (1 < (rd t140 x5_3)) = true := decide_eq_true c36
                clear c36
                obtain rfl := Option.some.inj H
                have hcz37_0 := cZ0 BK134
                have hcz37_1 := cZ1 BK134
                have hfz37_0 := fZ BK134 0
                have hfz37_1 := fZ BK134 1
                have p144 : 0 ≤ (x5_3 : Int) := dT
                have q144 : x5_3 < (t140.length : Int) := dT
                obtain ⟨ad144, e144, hx144_0⟩ := Kd.at_int (Kd.R_reads' HO_4.out).2.2 x5_3 p144 q144
                obtain rfl : ad143 = ad144 := (by injection e144)
                replace p144 := eq_true p144
                replace q144 := eq_true q144
                go_wp2
                repeat (go_quiet (fail); try go_wp2)
                go_ret
                exact ⟨eW, bB⟩
               ·rw [if_neg c36] at H
                have c36b0 : decide (1 < (rd t140 x5_3)) = false := decide_eq_false c36
                clear c36
                by_cases c38 : (rd t140 x5_3) = 0
                ·rw [if_pos c38] at H
                 have c38b0 : ((rd t140 x5_3) == 0) = true := beq_iff_eq.mpr c38
                 have c38b1 : ((rd t140 x5_3) != 0) = false := bne_eq_false_iff_eq.mpr c38
                 clear c38
                 by_cases c39 : (rdOf ByteArray.empty l0_1 x5_3).toList = ([] : List UInt8)
                 ·rw [if_pos c39] at H
                  have c39b0 : ((rdOf ByteArray.empty l0_1 x5_3).toList == ([] : List UInt8)) = true := beq_iff_eq.mpr c39
                  have c39b1 : ((rdOf ByteArray.empty l0_1 x5_3).toList != ([] : List UInt8)) = false := bne_eq_false_iff_eq.mpr c39
                  clear c39
                  by_cases c40 : ((rdOf ByteArray.empty l0_1 x5_3).size : Int) > 16
                  ·rw [if_pos c40] at H
                   have c40b0 : decide (16 < ((rdOf ByteArray.empty l0_1 x5_3).size : Int)) = true := decide_eq_true c40
                   have c40b1 : decide (16 < (rdOf ByteArray.empty l0_1 x5_3).size) = true := decide_eq_true (by omega)
                   clear c40
                   obtain rfl := Option.some.inj H
                   have hcz41_0 := cZ0 BK134
                   have hcz41_1 := cZ1 BK134
                   have hfz41_0 := fZ BK134 0
                   have hfz41_1 := fZ BK134 1
                   have p144 : 0 ≤ (x5_3 : Int) := dT
                   have q144 : x5_3 < (t140.length : Int) := dT
                   obtain ⟨ad144, e144, hx144_0⟩ := Kd.at_int (Kd.R_reads' HO_4.out).2.2 x5_3 p144 q144
                   obtain rfl : ad143 = ad144 := (by injection e144)
                   replace p144 := eq_true p144
                   replace q144 := eq_true q144
                   have p145 : 0 ≤ (x5_3 : Int) := dT
                   have q145 : x5_3 < (t140.length : Int) := dT
                   obtain ⟨ad145, e145, hx145_0⟩ := Kd.at_int (Kd.R_reads' HO_4.out).2.2 x5_3 p145 q145
                   obtain rfl : ad143 = ad145 := (by injection e145)
                   replace p145 := eq_true p145
                   replace q145 := eq_true q145
                   have p146 : 0 ≤ (x5_3 : Int) := dT
                   have q146 : x5_3 < (l0_1.length : Int) := dT
                   obtain ⟨ad146, e146, hx146_0⟩ := Kd.at_string HR0_1.out x5_3 p146 q146
                   cases e146
                   replace hx146_0 := (HB.out.cell (World.block_lt_of_cell? w _ hx146_0)).trans hx146_0
                   replace p146 := eq_true p146
                   replace q146 := eq_true q146
                   have p147 : 0 ≤ (x5_3 : Int) := dT
                   have q147 : x5_3 < (l0_1.length : Int) := dT
                   obtain ⟨ad147, e147, hx147_0⟩ := Kd.at_string HR0_1.out x5_3 p147 q147
                   obtain rfl : ad146 = ad147 := (by injection e147)
                   replace hx147_0 := (HB.out.cell (World.block_lt_of_cell? w _ hx147_0)).trans hx147_0
                   replace p147 := eq_true p147
                   replace q147 := eq_true q147
                   go_wp2
                   repeat (go_quiet (fail); try go_wp2)
                   go_ret
                   exact ⟨eW, bB⟩
                  ·rw [if_neg c40] at H
                   have c40b0 : decide (16 < ((rdOf ByteArray.empty l0_1 x5_3).size : Int)) = false := decide_eq_false c40
                   have c40b1 : decide (16 < (rdOf ByteArray.empty l0_1 x5_3).size) = false := decide_eq_false (by omega)
                   clear c40
                   have H' := aM H
                   clear H
                   have hcz42_0 := cZ0 BK134
                   have hcz42_1 := cZ1 BK134
                   have hfz42_0 := fZ BK134 0
                   have hfz42_1 := fZ BK134 1
                   have p144 : 0 ≤ (x5_3 : Int) := dT
                   have q144 : x5_3 < (t140.length : Int) := dT
                   obtain ⟨ad144, e144, hx144_0⟩ := Kd.at_int (Kd.R_reads' HO_4.out).2.2 x5_3 p144 q144
                   obtain rfl : ad143 = ad144 := (by injection e144)
                   replace p144 := eq_true p144
                   replace q144 := eq_true q144
                   have p145 : 0 ≤ (x5_3 : Int) := dT
                   have q145 : x5_3 < (t140.length : Int) := dT
                   obtain ⟨ad145, e145, hx145_0⟩ := Kd.at_int (Kd.R_reads' HO_4.out).2.2 x5_3 p145 q145
                   obtain rfl : ad143 = ad145 := (by injection e145)
                   replace p145 := eq_true p145
                   replace q145 := eq_true q145
                   have p146 : 0 ≤ (x5_3 : Int) := dT
                   have q146 : x5_3 < (l0_1.length : Int) := dT
                   obtain ⟨ad146, e146, hx146_0⟩ := Kd.at_string HR0_1.out x5_3 p146 q146
                   cases e146
                   replace hx146_0 := (HB.out.cell (World.block_lt_of_cell? w _ hx146_0)).trans hx146_0
                   replace p146 := eq_true p146
                   replace q146 := eq_true q146
                   have p147 : 0 ≤ (x5_3 : Int) := dT
                   have q147 : x5_3 < (l0_1.length : Int) := dT
                   obtain ⟨ad147, e147, hx147_0⟩ := Kd.at_string HR0_1.out x5_3 p147 q147
                   obtain rfl : ad146 = ad147 := (by injection e147)
                   replace hx147_0 := (HB.out.cell (World.block_lt_of_cell? w _ hx147_0)).trans hx147_0
                   replace p147 := eq_true p147
                   replace q147 := eq_true q147
                   go_wp2
                   repeat (go_quiet (fail); try go_wp2)
                   go_roundg k3
                   case measure => have := HJ1.out; have := HK2.out; have := HK3.out; omega
                   case rel => exact ⟨(wrap64 (x5_3 + 1)), (by first | rfl | (simp; done) | (simp [*]; done) | (simp; exact (by intro l_; cases l_ <;> rfl : ∀ l_ : List UInt8, l_.isEmpty = !(l_ != [])) _)), H', ⟨by have := HJ1.out; have := HK2.out; have := HK3.out; omega⟩, ⟨rP HO_4.out⟩, ⟨kP BK134⟩, ⟨bB⟩⟩
                 ·rw [if_neg c39] at H
                  have c39b0 : ((rdOf ByteArray.empty l0_1 x5_3).toList == ([] : List UInt8)) = false := beq_eq_false_iff_ne.mpr c39
                  have c39b1 : ((rdOf ByteArray.empty l0_1 x5_3).toList != ([] : List UInt8)) = true := bne_iff_ne.mpr c39
                  obtain rfl := Option.some.inj H
                  have hcz43_0 := cZ0 BK134
                  have hcz43_1 := cZ1 BK134
                  have hfz43_0 := fZ BK134 0
                  have hfz43_1 := fZ BK134 1
                  have p144 : 0 ≤ (x5_3 : Int) := dT
                  have q144 : x5_3 < (t140.length : Int) := dT
                  obtain ⟨ad144, e144, hx144_0⟩ := Kd.at_int (Kd.R_reads' HO_4.out).2.2 x5_3 p144 q144
                  obtain rfl : ad143 = ad144 := (by injection e144)
                  replace p144 := eq_true p144
                  replace q144 := eq_true q144
                  have p145 : 0 ≤ (x5_3 : Int) := dT
                  have q145 : x5_3 < (t140.length : Int) := dT
                  obtain ⟨ad145, e145, hx145_0⟩ := Kd.at_int (Kd.R_reads' HO_4.out).2.2 x5_3 p145 q145
                  obtain rfl : ad143 = ad145 := (by injection e145)
                  replace p145 := eq_true p145
                  replace q145 := eq_true q145
                  have p146 : 0 ≤ (x5_3 : Int) := dT
                  have q146 : x5_3 < (l0_1.length : Int) := dT
                  obtain ⟨ad146, e146, hx146_0⟩ := Kd.at_string HR0_1.out x5_3 p146 q146
                  cases e146
                  replace hx146_0 := (HB.out.cell (World.block_lt_of_cell? w _ hx146_0)).trans hx146_0
                  replace p146 := eq_true p146
                  replace q146 := eq_true q146
                  go_wp2
                  repeat (go_quiet (fail); try go_wp2)
                  go_ret
                  exact ⟨eW, bB⟩
                ·rw [if_neg c38] at H
                 have c38b0 : ((rd t140 x5_3) == 0) = false := beq_eq_false_iff_ne.mpr c38
                 have c38b1 : ((rd t140 x5_3) != 0) = true := bne_iff_ne.mpr c38
                 by_cases c44 : ((rdOf ByteArray.empty l0_1 x5_3).size : Int) > 16
                 ·rw [if_pos c44] at H
                  have c44b0 : decide (16 < ((rdOf ByteArray.empty l0_1 x5_3).size : Int)) = true := decide_eq_true c44
                  have c44b1 : decide (16 < (rdOf ByteArray.empty l0_1 x5_3).size) = true := decide_eq_true (by omega)
                  clear c44
                  obtain rfl := Option.some.inj H
                  have hcz45_0 := cZ0 BK134
                  have hcz45_1 := cZ1 BK134
                  have hfz45_0 := fZ BK134 0
                  have hfz45_1 := fZ BK134 1
                  have p144 : 0 ≤ (x5_3 : Int) := dT
                  have q144 : x5_3 < (t140.length : Int) := dT
                  obtain ⟨ad144, e144, hx144_0⟩ := Kd.at_int (Kd.R_reads' HO_4.out).2.2 x5_3 p144 q144
                  obtain rfl : ad143 = ad144 := (by injection e144)
                  replace p144 := eq_true p144
                  replace q144 := eq_true q144
                  have p145 : 0 ≤ (x5_3 : Int) := dT
                  have q145 : x5_3 < (t140.length : Int) := dT
                  obtain ⟨ad145, e145, hx145_0⟩ := Kd.at_int (Kd.R_reads' HO_4.out).2.2 x5_3 p145 q145
                  obtain rfl : ad143 = ad145 := (by injection e145)
                  replace p145 := eq_true p145
                  replace q145 := eq_true q145
                  have p148 : 0 ≤ (x5_3 : Int) := dT
                  have q148 : x5_3 < (l0_1.length : Int) := dT
                  obtain ⟨ad148, e148, hx148_0⟩ := Kd.at_string HR0_1.out x5_3 p148 q148
                  cases e148
                  replace hx148_0 := (HB.out.cell (World.block_lt_of_cell? w _ hx148_0)).trans hx148_0
                  replace p148 := eq_true p148
                  replace q148 := eq_true q148
                  go_wp2
                  repeat (go_quiet (fail); try go_wp2)
                  go_ret
                  exact ⟨eW, bB⟩
                 ·rw [if_neg c44] at H
                  have c44b0 : decide (16 < ((rdOf ByteArray.empty l0_1 x5_3).size : Int)) = false := decide_eq_false c44
                  have c44b1 : decide (16 < (rdOf ByteArray.empty l0_1 x5_3).size) = false := decide_eq_false (by omega)
                  clear c44
                  have H' := aM H
                  clear H
                  have hcz46_0 := cZ0 BK134
                  have hcz46_1 := cZ1 BK134
                  have hfz46_0 := fZ BK134 0
                  have hfz46_1 := fZ BK134 1
                  have p144 : 0 ≤ (x5_3 : Int) := dT
                  have q144 : x5_3 < (t140.length : Int) := dT
                  obtain ⟨ad144, e144, hx144_0⟩ := Kd.at_int (Kd.R_reads' HO_4.out).2.2 x5_3 p144 q144
                  obtain rfl : ad143 = ad144 := (by injection e144)
                  replace p144 := eq_true p144
                  replace q144 := eq_true q144
                  have p145 : 0 ≤ (x5_3 : Int) := dT
                  have q145 : x5_3 < (t140.length : Int) := dT
                  obtain ⟨ad145, e145, hx145_0⟩ := Kd.at_int (Kd.R_reads' HO_4.out).2.2 x5_3 p145 q145
                  obtain rfl : ad143 = ad145 := (by injection e145)
                  replace p145 := eq_true p145
                  replace q145 := eq_true q145
                  have p148 : 0 ≤ (x5_3 : Int) := dT
                  have q148 : x5_3 < (l0_1.length : Int) := dT
                  obtain ⟨ad148, e148, hx148_0⟩ := Kd.at_string HR0_1.out x5_3 p148 q148
                  cases e148
                  replace hx148_0 := (HB.out.cell (World.block_lt_of_cell? w _ hx148_0)).trans hx148_0
                  replace p148 := eq_true p148
                  replace q148 := eq_true q148
                  go_wp2
                  repeat (go_quiet (fail); try go_wp2)
                  go_roundg k3
                  case measure => have := HJ1.out; have := HK2.out; have := HK3.out; omega
                  case rel => exact ⟨(wrap64 (x5_3 + 1)), (by first | rfl | (simp; done) | (simp [*]; done) | (simp; exact (by intro l_; cases l_ <;> rfl : ∀ l_ : List UInt8, l_.isEmpty = !(l_ != [])) _)), H', ⟨by have := HJ1.out; have := HK2.out; have := HK3.out; omega⟩, ⟨rP HO_4.out⟩, ⟨kP BK134⟩, ⟨bB⟩⟩
              ·rw [if_neg c35] at H
               exact absurd H (by simp)
             ·rw [if_neg c34] at H
              exact absurd H (by simp)
            ·rw [if_neg c33] at H
             have c33b0 : decide (x5_3 < (l0_1.length : Int)) = false := decide_eq_false c33
             clear c33
             have H' := aM H
             clear H
             have hcz47_0 := cZ0 BK134
             have hcz47_1 := cZ1 BK134
             have hfz47_0 := fZ BK134 0
             have hfz47_1 := fZ BK134 1
             go_wp2
             repeat (go_quiet (fail); try go_wp2)
             go_loopg [6] k3 (fun kq v6 w' => ∃ (x6_4 : Int), v6 = .int .i64 x6_4 ∧ Aside0 (spec_ShapeOk.l2 kq x6_4 l0_0 l0_1 = some r) ∧ Aside0 (kq ≤ k3) ∧ Aside0 (w'.heap[gb134]? = some (.cells #[(.slice A0_0 l0_0.length c0_0), (.slice A0_1 l0_1.length c0_1)] 30 (0, 0))) ∧ Aside0 (Below w.heap.size w w'))
             case atStart => exact ⟨(0), (by first | rfl | (simp; done) | (simp [*]; done) | (simp; exact (by intro l_; cases l_ <;> rfl : ∀ l_ : List UInt8, l_.isEmpty = !(l_ != [])) _)), H', ⟨Nat.le_refl _⟩, ⟨kP BK134⟩, ⟨bB⟩⟩
             case round =>
              clear H'
              try clear c1
              try clear p1
              try clear q1
              try clear hx1
              try clear qi1
              try clear c2
              try clear p2
              try clear c3
              try clear c4
              try clear c5
              try clear p6
              try clear c7
              try clear c8
              try clear c8b0
              try clear c8b1
              try clear c8b2
              try clear c12
              try clear c13
              try clear c13b0
              try clear p13
              try clear q13
              try clear hx13
              try clear qi13
              try clear c14
              try clear c14b0
              try clear p14
              try clear q14
              try clear hx14
              try clear c16
              try clear c22
              try clear c22b0
              try clear c22b1
              try clear c23
              try clear c23b0
              try clear c23b1
              try clear c24
              try clear c24b0
              try clear c33
              try clear c33b0
              try clear c34
              try clear c34b0
              try clear c35
              try clear c35b0
              try clear c36
              try clear c36b0
              try clear c38
              try clear c38b0
              try clear c38b1
              try clear c39
              try clear c39b0
              try clear c39b1
              try clear c40
              try clear c40b0
              try clear c40b1
              try clear c44
              try clear c44b0
              try clear c44b1
              try clear hcz10_0
              try clear hcz10_1
              try clear hcz11_0
              try clear hcz11_1
              try clear hcz17_0
              try clear hcz17_1
              try clear hcz19_0
              try clear hcz19_1
              try clear hcz25_0
              try clear hcz25_1
              try clear hcz27_0
              try clear hcz27_1
              try clear hcz29_0
              try clear hcz29_1
              try clear hcz31_0
              try clear hcz31_1
              try clear hcz37_0
              try clear hcz37_1
              try clear hcz41_0
              try clear hcz41_1
              try clear hcz42_0
              try clear hcz42_1
              try clear hcz43_0
              try clear hcz43_1
              try clear hcz45_0
              try clear hcz45_1
              try clear hcz46_0
              try clear hcz46_1
              try clear hcz47_0
              try clear hcz47_1
              try clear hcz9_0
              try clear hcz9_1
              try clear hfz10_0
              try clear hfz10_1
              try clear hfz11_0
              try clear hfz11_1
              try clear hfz17_0
              try clear hfz17_1
              try clear hfz19_0
              try clear hfz19_1
              try clear hfz25_0
              try clear hfz25_1
              try clear hfz27_0
              try clear hfz27_1
              try clear hfz29_0
              try clear hfz29_1
              try clear hfz31_0
              try clear hfz31_1
              try clear hfz37_0
              try clear hfz37_1
              try clear hfz41_0
              try clear hfz41_1
              try clear hfz42_0
              try clear hfz42_1
              try clear hfz43_0
              try clear hfz43_1
              try clear hfz45_0
              try clear hfz45_1
              try clear hfz46_0
              try clear hfz46_1
              try clear hfz47_0
              try clear hfz47_1
              try clear hfz9_0
              try clear hfz9_1
              try clear hx137_0
              try clear hx137_1
              try clear hx137_2
              try clear hx137_3
              try clear hx137_4
              try clear hx138_0
              try clear hx138_1
              try clear hx138_2
              try clear hx138_3
              try clear hx138_4
              try clear hx143_0
              try clear hx144_0
              try clear hx145_0
              try clear hx146_0
              try clear hx147_0
              try clear hx148_0
              try clear p1
              try clear p13
              try clear p137
              try clear p138
              try clear p14
              try clear p143
              try clear p144
              try clear p145
              try clear p146
              try clear p147
              try clear p148
              try clear p2
              try clear p6
              try clear q1
              try clear q13
              try clear q137
              try clear q138
              try clear q14
              try clear q143
              try clear q144
              try clear q145
              try clear q146
              try clear q147
              try clear q148
              obtain ⟨x6_4, rfl, HA, HK4, BK134, HB⟩ := hrel
              cases gk with
              | zero => exact absurd HA.out (by simp [spec_ShapeOk.l2])
              | succ k4 =>
               have H := HA.out
               clear HA
               simp only [spec_ShapeOk.l2] at H
               by_cases c48 : x6_4 < (l0_0.length : Int)
               ·rw [if_pos c48] at H
                have c48b0 : decide (x6_4 < (l0_0.length : Int)) = true := decide_eq_true c48
                clear c48
                by_cases c49 : 0 ≤ x6_4
                ·rw [if_pos c49] at H
                 have c49b0 : decide (0 ≤ x6_4) = true := decide_eq_true c49
                 clear c49
                 have H' := aM H
                 clear H
                 have hcz50_0 := cZ0 BK134
                 have hcz50_1 := cZ1 BK134
                 have hfz50_0 := fZ BK134 0
                 have hfz50_1 := fZ BK134 1
                 have p149 : 0 ≤ (x6_4 : Int) := dT
                 have q149 : x6_4 < (l0_0.length : Int) := dT
                 obtain ⟨ad149, A149_4, c149_4, e149, hx149_0, hx149_1, hx149_2, hx149_3, hx149_4, hl149_4, hi149_4⟩ := at_T40 HR0_0.out x6_4 p149 q149
                 cases e149
                 replace hx149_0 := (HB.out.cell (World.block_lt_of_cell? w _ hx149_0)).trans hx149_0
                 replace hx149_1 := (HB.out.cell (World.block_lt_of_cell? w _ hx149_1)).trans hx149_1
                 replace hx149_2 := (HB.out.cell (World.block_lt_of_cell? w _ hx149_2)).trans hx149_2
                 replace hx149_3 := (HB.out.cell (World.block_lt_of_cell? w _ hx149_3)).trans hx149_3
                 replace hx149_4 := (HB.out.cell (World.block_lt_of_cell? w _ hx149_4)).trans hx149_4
                 have HR149_4 := aM hi149_4
                 have HC149_4 := aM hl149_4
                 clear hi149_4 hl149_4
                 replace p149 := eq_true p149
                 replace q149 := eq_true q149
                 go_wp2_with (first | ((with_reducible refine gate_dst (N := 7) rfl ?_); (try (refine gate_guard (by rfl) ?_; dsimp only)); refine box_event ?hg (N := 7) ?hd (cs := #[.int .i64 0, .int .i64 0, .int .i64 0, .int .i64 0, .slice none 0 0]) (t := 40) ?hr ?_; (case hd => rfl); (case hg => rfl); (case hr => first | (go_simp; done) | (go_simp; rfl)); intro gb150 hg w51 hbox hb; have n_ := aI (kB BK134 hb) (aI (sB HB hb) (aI (aM hbox) (aI (gE HB hg) (aI (gE HB hg) (aI (nL BK134 hg) (nG BK134 hg)))))); clear BK134 HB; obtain ⟨BK134, HB, BK150, GW150, GE150, NB134_150, NB150_134⟩ := n_; (try clear hb hbox hg); have hnb52 := NB150_134.out; have hnc52 := NB134_150.out; have hcz53_0 := cZ0 BK150; have hcz53_1 := cZ1 BK150; have hcz53_2 : w51.cell? ⟨gb150, 2, none⟩ = some (.int .i64 0) := (blk_cell BK150.out 2).trans rfl; have hcz53_3 : w51.cell? ⟨gb150, 3, none⟩ = some (.int .i64 0) := (blk_cell BK150.out 3).trans rfl; have hcz53_4 : w51.cell? ⟨gb150, 4, none⟩ = some (.slice none 0 0) := (blk_cell BK150.out 4).trans rfl; have hfz53_0 := fZ BK150 0; have hfz53_1 := fZ BK150 1; have hfz53_2 := fZ BK150 2; have hfz53_3 := fZ BK150 3; have hfz53_4 := fZ BK150 4))
                 repeat (go_quiet (first | ((with_reducible refine gate_dst (N := 7) rfl ?_); (try (refine gate_guard (by rfl) ?_; dsimp only)); refine box_event ?hg (N := 7) ?hd (cs := #[.int .i64 0, .int .i64 0, .int .i64 0, .int .i64 0, .slice none 0 0]) (t := 40) ?hr ?_; (case hd => rfl); (case hg => rfl); (case hr => first | (go_simp; done) | (go_simp; rfl)); intro gb150 hg w51 hbox hb; have n_ := aI (kB BK134 hb) (aI (sB HB hb) (aI (aM hbox) (aI (gE HB hg) (aI (gE HB hg) (aI (nL BK134 hg) (nG BK134 hg)))))); clear BK134 HB; obtain ⟨BK134, HB, BK150, GW150, GE150, NB134_150, NB150_134⟩ := n_; (try clear hb hbox hg); have hnb52 := NB150_134.out; have hnc52 := NB134_150.out; have hcz53_0 := cZ0 BK150; have hcz53_1 := cZ1 BK150; have hcz53_2 : w51.cell? ⟨gb150, 2, none⟩ = some (.int .i64 0) := (blk_cell BK150.out 2).trans rfl; have hcz53_3 : w51.cell? ⟨gb150, 3, none⟩ = some (.int .i64 0) := (blk_cell BK150.out 3).trans rfl; have hcz53_4 : w51.cell? ⟨gb150, 4, none⟩ = some (.slice none 0 0) := (blk_cell BK150.out 4).trans rfl; have hfz53_0 := fZ BK150 0; have hfz53_1 := fZ BK150 1; have hfz53_2 := fZ BK150 2; have hfz53_3 := fZ BK150 3; have hfz53_4 := fZ BK150 4)); try go_wp2_with (first | ((with_reducible refine gate_dst (N := 7) rfl ?_); (try (refine gate_guard (by rfl) ?_; dsimp only)); refine box_event ?hg (N := 7) ?hd (cs := #[.int .i64 0, .int .i64 0, .int .i64 0, .int .i64 0, .slice none 0 0]) (t := 40) ?hr ?_; (case hd => rfl); (case hg => rfl); (case hr => first | (go_simp; done) | (go_simp; rfl)); intro gb150 hg w51 hbox hb; have n_ := aI (kB BK134 hb) (aI (sB HB hb) (aI (aM hbox) (aI (gE HB hg) (aI (gE HB hg) (aI (nL BK134 hg) (nG BK134 hg)))))); clear BK134 HB; obtain ⟨BK134, HB, BK150, GW150, GE150, NB134_150, NB150_134⟩ := n_; (try clear hb hbox hg); have hnb52 := NB150_134.out; have hnc52 := NB134_150.out; have hcz53_0 := cZ0 BK150; have hcz53_1 := cZ1 BK150; have hcz53_2 : w51.cell? ⟨gb150, 2, none⟩ = some (.int .i64 0) := (blk_cell BK150.out 2).trans rfl; have hcz53_3 : w51.cell? ⟨gb150, 3, none⟩ = some (.int .i64 0) := (blk_cell BK150.out 3).trans rfl; have hcz53_4 : w51.cell? ⟨gb150, 4, none⟩ = some (.slice none 0 0) := (blk_cell BK150.out 4).trans rfl; have hfz53_0 := fZ BK150 0; have hfz53_1 := fZ BK150 1; have hfz53_2 := fZ BK150 2; have hfz53_3 := fZ BK150 3; have hfz53_4 := fZ BK150 4)))
                 go_loopg [8] k4 (fun kq v8 w' => ∃ (x8_5 : Int), v8 = .int .i64 x8_5 ∧ Aside0 (spec_ShapeOk.l3 kq x6_4 x8_5 l0_0 l0_1 ((rd_T40 l0_0 x6_4).f0) ((rd_T40 l0_0 x6_4).f1) ((rd_T40 l0_0 x6_4).f2) ((rd_T40 l0_0 x6_4).f3) ((rd_T40 l0_0 x6_4).f4) = some r) ∧ Aside0 (kq ≤ k4) ∧ Aside0 (w'.heap[gb134]? = some (.cells #[(.slice (some ad149) l0_0.length c0_0), (.slice A0_1 l0_1.length c0_1)] 30 (0, 0))) ∧ Aside0 (w'.heap[gb150]? = some (.cells #[.int .i64 ((rd_T40 l0_0 x6_4).f0), .int .i64 ((rd_T40 l0_0 x6_4).f1), .int .i64 ((rd_T40 l0_0 x6_4).f2), .int .i64 ((rd_T40 l0_0 x6_4).f3), (.slice A149_4 ((rd_T40 l0_0 x6_4).f4).length c149_4)] 40 (0, 0))) ∧ Aside0 (Below w.heap.size w w'))
                 case atStart => exact ⟨(0), (by first | rfl | (simp; done) | (simp [*]; done) | (simp; exact (by intro l_; cases l_ <;> rfl : ∀ l_ : List UInt8, l_.isEmpty = !(l_ != [])) _)), H', ⟨Nat.le_refl _⟩, ⟨kP BK134⟩, ⟨by (with_reducible repeat (first | apply bN | apply bD | apply bA)); refine blk_put (cs := #[.int .i64 ((rd_T40 l0_0 x6_4).f0), .int .i64 ((rd_T40 l0_0 x6_4).f1), .int .i64 ((rd_T40 l0_0 x6_4).f2), .int .i64 ((rd_T40 l0_0 x6_4).f3), .slice none 0 0]) ?_ 4 _ rfl; (with_reducible repeat (first | apply bN | apply bD | apply bA)); refine blk_put (cs := #[.int .i64 ((rd_T40 l0_0 x6_4).f0), .int .i64 ((rd_T40 l0_0 x6_4).f1), .int .i64 ((rd_T40 l0_0 x6_4).f2), .int .i64 0, .slice none 0 0]) ?_ 3 _ rfl; (with_reducible repeat (first | apply bN | apply bD | apply bA)); refine blk_put (cs := #[.int .i64 ((rd_T40 l0_0 x6_4).f0), .int .i64 ((rd_T40 l0_0 x6_4).f1), .int .i64 0, .int .i64 0, .slice none 0 0]) ?_ 2 _ rfl; (with_reducible repeat (first | apply bN | apply bD | apply bA)); refine blk_put (cs := #[.int .i64 ((rd_T40 l0_0 x6_4).f0), .int .i64 0, .int .i64 0, .int .i64 0, .slice none 0 0]) ?_ 1 _ rfl; (with_reducible repeat (first | apply bN | apply bD | apply bA)); refine blk_put (cs := #[.int .i64 0, .int .i64 0, .int .i64 0, .int .i64 0, .slice none 0 0]) ?_ 0 _ rfl; (with_reducible repeat (first | apply bN | apply bD | apply bA)); exact BK150.out⟩, ⟨bB⟩⟩
                 case round =>
                  clear H'
                  try clear c1
                  try clear p1
                  try clear q1
                  try clear hx1
                  try clear qi1
                  try clear c2
                  try clear p2
                  try clear c3
                  try clear c4
                  try clear c5
                  try clear p6
                  try clear c7
                  try clear c8
                  try clear c8b0
                  try clear c8b1
                  try clear c8b2
                  try clear c12
                  try clear c13
                  try clear c13b0
                  try clear p13
                  try clear q13
                  try clear hx13
                  try clear qi13
                  try clear c14
                  try clear c14b0
                  try clear p14
                  try clear q14
                  try clear hx14
                  try clear c16
                  try clear c22
                  try clear c22b0
                  try clear c22b1
                  try clear c23
                  try clear c23b0
                  try clear c23b1
                  try clear c24
                  try clear c24b0
                  try clear c33
                  try clear c33b0
                  try clear c34
                  try clear c34b0
                  try clear c35
                  try clear c35b0
                  try clear c36
                  try clear c36b0
                  try clear c38
                  try clear c38b0
                  try clear c38b1
                  try clear c39
                  try clear c39b0
                  try clear c39b1
                  try clear c40
                  try clear c40b0
                  try clear c40b1
                  try clear c44
                  try clear c44b0
                  try clear c44b1
                  try clear c48
                  try clear c48b0
                  try clear c49
                  try clear c49b0
                  try clear c52
                  try clear hcz10_0
                  try clear hcz10_1
                  try clear hcz11_0
                  try clear hcz11_1
                  try clear hcz17_0
                  try clear hcz17_1
                  try clear hcz19_0
                  try clear hcz19_1
                  try clear hcz25_0
                  try clear hcz25_1
                  try clear hcz27_0
                  try clear hcz27_1
                  try clear hcz29_0
                  try clear hcz29_1
                  try clear hcz31_0
                  try clear hcz31_1
                  try clear hcz37_0
                  try clear hcz37_1
                  try clear hcz41_0
                  try clear hcz41_1
                  try clear hcz42_0
                  try clear hcz42_1
                  try clear hcz43_0
                  try clear hcz43_1
                  try clear hcz45_0
                  try clear hcz45_1
                  try clear hcz46_0
                  try clear hcz46_1
                  try clear hcz47_0
                  try clear hcz47_1
                  try clear hcz50_0
                  try clear hcz50_1
                  try clear hcz53_0
                  try clear hcz53_1
                  try clear hcz53_2
                  try clear hcz53_3
                  try clear hcz53_4
                  try clear hcz9_0
                  try clear hcz9_1
                  try clear hfz10_0
                  try clear hfz10_1
                  try clear hfz11_0
                  try clear hfz11_1
                  try clear hfz17_0
                  try clear hfz17_1
                  try clear hfz19_0
                  try clear hfz19_1
                  try clear hfz25_0
                  try clear hfz25_1
                  try clear hfz27_0
                  try clear hfz27_1
                  try clear hfz29_0
                  try clear hfz29_1
                  try clear hfz31_0
                  try clear hfz31_1
                  try clear hfz37_0
                  try clear hfz37_1
                  try clear hfz41_0
                  try clear hfz41_1
                  try clear hfz42_0
                  try clear hfz42_1
                  try clear hfz43_0
                  try clear hfz43_1
                  try clear hfz45_0
                  try clear hfz45_1
                  try clear hfz46_0
                  try clear hfz46_1
                  try clear hfz47_0
                  try clear hfz47_1
                  try clear hfz50_0
                  try clear hfz50_1
                  try clear hfz53_0
                  try clear hfz53_1
                  try clear hfz53_2
                  try clear hfz53_3
                  try clear hfz53_4
                  try clear hfz9_0
                  try clear hfz9_1
                  try clear hx137_0
                  try clear hx137_1
                  try clear hx137_2
                  try clear hx137_3
                  try clear hx137_4
                  try clear hx138_0
                  try clear hx138_1
                  try clear hx138_2
                  try clear hx138_3
                  try clear hx138_4
                  try clear hx143_0
                  try clear hx144_0
                  try clear hx145_0
                  try clear hx146_0
                  try clear hx147_0
                  try clear hx148_0
                  try clear hx149_0
                  try clear hx149_1
                  try clear hx149_2
                  try clear hx149_3
                  try clear hx149_4
                  try clear p1
                  try clear p13
                  try clear p137
                  try clear p138
                  try clear p14
                  try clear p143
                  try clear p144
                  try clear p145
                  try clear p146
                  try clear p147
                  try clear p148
                  try clear p149
                  try clear p2
                  try clear p6
                  try clear q1
                  try clear q13
                  try clear q137
                  try clear q138
                  try clear q14
                  try clear q143
                  try clear q144
                  try clear q145
                  try clear q146
                  try clear q147
                  try clear q148
                  try clear q149
                  obtain ⟨x8_5, rfl, HA, HK5, BK134, BK150, HB⟩ := hrel
                  cases gk with
                  | zero => exact absurd HA.out (by simp [spec_ShapeOk.l3])
                  | succ k5 =>
                   have H := HA.out
                   clear HA
                   simp only [spec_ShapeOk.l3] at H
                   by_cases c54 : x8_5 < (((rd_T40 l0_0 x6_4).f4).length : Int)
                   ·rw [if_pos c54] at H
                    have c54b0 : decide (x8_5 < (((rd_T40 l0_0 x6_4).f4).length : Int)) = true := decide_eq_true c54
                    clear c54
                    by_cases c55 : 0 ≤ x8_5
                    ·rw [if_pos c55] at H
                     have c55b0 : decide (0 ≤ x8_5) = true := decide_eq_true c55
                     clear c55
                     by_cases c56 : 0 ≤ (rd ((rd_T40 l0_0 x6_4).f4) x8_5)
                     ·rw [if_pos c56] at H
                      have c56b0 : decide (0 ≤ (rd ((rd_T40 l0_0 x6_4).f4) x8_5)) = true := decide_eq_true c56
                      clear c56
                      by_cases c57 : (rd ((rd_T40 l0_0 x6_4).f4) x8_5) < (l0_1.length : Int)
                      ·rw [if_pos c57] at H
                       have c57b0 : decide ((rd ((rd_T40 l0_0 x6_4).f4) x8_5) < (l0_1.length : Int)) = true := decide_eq_true c57
                       clear c57
                       replace H := Option.bind_eq_some_iff.mp H
                       obtain ⟨t153, A580, H⟩ := H
                       try dsimp only at H
                       have A58 := aM A580
                       clear A580
                       by_cases c59 : ((rdOf ByteArray.empty l0_1 (rd ((rd_T40 l0_0 x6_4).f4) x8_5)).size : Int) = t153
                       ·rw [if_pos c59] at H
                        have c59b0 : (((rdOf ByteArray.empty l0_1 (rd ((rd_T40 l0_0 x6_4).f4) x8_5)).size : Int) == t153) = true := beq_iff_eq.mpr c59
                        have c59b1 : (((rdOf ByteArray.empty l0_1 (rd ((rd_T40 l0_0 x6_4).f4) x8_5)).size : Int) != t153) = false := bne_eq_false_iff_eq.mpr c59
                        clear c59
                        have H' := aM H
                        clear H
                        have hnb60 := NB150_134.out
                        have hnc60 := NB134_150.out
                        have hcz61_0 : wr.cell? ⟨gb150, 0, none⟩ = some (.int .i64 ((rd_T40 l0_0 x6_4).f0)) := (blk_cell BK150.out 0).trans rfl
                        have hcz61_1 : wr.cell? ⟨gb150, 1, none⟩ = some (.int .i64 ((rd_T40 l0_0 x6_4).f1)) := (blk_cell BK150.out 1).trans rfl
                        have hcz61_2 : wr.cell? ⟨gb150, 2, none⟩ = some (.int .i64 ((rd_T40 l0_0 x6_4).f2)) := (blk_cell BK150.out 2).trans rfl
                        have hcz61_3 : wr.cell? ⟨gb150, 3, none⟩ = some (.int .i64 ((rd_T40 l0_0 x6_4).f3)) := (blk_cell BK150.out 3).trans rfl
                        have hcz61_4 : wr.cell? ⟨gb150, 4, none⟩ = some (.slice A149_4 ((rd_T40 l0_0 x6_4).f4).length c149_4) := (blk_cell BK150.out 4).trans rfl
                        have hfz61_0 := fZ BK150 0
                        have hfz61_1 := fZ BK150 1
                        have hfz61_2 := fZ BK150 2
                        have hfz61_3 := fZ BK150 3
                        have hfz61_4 := fZ BK150 4
                        have hcz62_0 := cZ0 BK134
                        have hcz62_1 := cZ1 BK134
                        have hfz62_0 := fZ BK134 0
                        have hfz62_1 := fZ BK134 1
                        have p151 : 0 ≤ (x8_5 : Int) := dT
                        have q151 : x8_5 < (((rd_T40 l0_0 x6_4).f4).length : Int) := dT
                        obtain ⟨ad151, e151, hx151_0⟩ := Kd.at_int HR149_4.out x8_5 p151 q151
                        cases e151
                        replace hx151_0 := (HB.out.cell (World.block_lt_of_cell? w _ hx151_0)).trans hx151_0
                        replace p151 := eq_true p151
                        replace q151 := eq_true q151
                        have p152 : 0 ≤ ((rd ((rd_T40 l0_0 x6_4).f4) x8_5) : Int) := dT
                        have q152 : (rd ((rd_T40 l0_0 x6_4).f4) x8_5) < (l0_1.length : Int) := dT
                        obtain ⟨ad152, e152, hx152_0⟩ := Kd.at_string HR0_1.out (rd ((rd_T40 l0_0 x6_4).f4) x8_5) p152 q152
                        cases e152
                        replace hx152_0 := (HB.out.cell (World.block_lt_of_cell? w _ hx152_0)).trans hx152_0
                        replace p152 := eq_true p152
                        replace q152 := eq_true q152
                        go_wp2_with (first | (go_at_call 20; (with_reducible refine (spec_l6Long.calls ((rd_T40 l0_0 x6_4).f3) x8_5 t153 _ A58.out).mono ?_); rintro e w' ⟨rfl, ⟨nd, rfl⟩⟩; (try first | exact ⟨rfl, _, World.drewN_drewN _ _ _⟩ | exact ⟨rfl, _, Eq.trans (World.drewN_drewN _ _ _) (congrArg (World.drewN _) (Nat.add_assoc _ _ _))⟩)))
                        repeat (go_quiet (first | (go_at_call 20; (with_reducible refine (spec_l6Long.calls ((rd_T40 l0_0 x6_4).f3) x8_5 t153 _ A58.out).mono ?_); rintro e w' ⟨rfl, ⟨nd, rfl⟩⟩; (try first | exact ⟨rfl, _, World.drewN_drewN _ _ _⟩ | exact ⟨rfl, _, Eq.trans (World.drewN_drewN _ _ _) (congrArg (World.drewN _) (Nat.add_assoc _ _ _))⟩))); try go_wp2_with (first | (go_at_call 20; (with_reducible refine (spec_l6Long.calls ((rd_T40 l0_0 x6_4).f3) x8_5 t153 _ A58.out).mono ?_); rintro e w' ⟨rfl, ⟨nd, rfl⟩⟩; (try first | exact ⟨rfl, _, World.drewN_drewN _ _ _⟩ | exact ⟨rfl, _, Eq.trans (World.drewN_drewN _ _ _) (congrArg (World.drewN _) (Nat.add_assoc _ _ _))⟩))))
                        go_roundg k5
                        case measure => have := HJ1.out; have := HK2.out; have := HK3.out; have := HK4.out; have := HK5.out; omega
                        case rel => exact ⟨(wrap64 (x8_5 + 1)), (by first | rfl | (simp; done) | (simp [*]; done) | (simp; exact (by intro l_; cases l_ <;> rfl : ∀ l_ : List UInt8, l_.isEmpty = !(l_ != [])) _)), H', ⟨by have := HJ1.out; have := HK2.out; have := HK3.out; have := HK4.out; have := HK5.out; omega⟩, ⟨kP BK134⟩, ⟨kP BK150⟩, ⟨bB⟩⟩
                       ·rw [if_neg c59] at H
                        have c59b0 : (((rdOf ByteArray.empty l0_1 (rd ((rd_T40 l0_0 x6_4).f4) x8_5)).size : Int) == t153) = false := beq_eq_false_iff_ne.mpr c59
                        have c59b1 : (((rdOf ByteArray.empty l0_1 (rd ((rd_T40 l0_0 x6_4).f4) x8_5)).size : Int) != t153) = true := bne_iff_ne.mpr c59
                        obtain rfl := Option.some.inj H
                        have hnb63 := NB150_134.out
                        have hnc63 := NB134_150.out
                        have hcz64_0 : wr.cell? ⟨gb150, 0, none⟩ = some (.int .i64 ((rd_T40 l0_0 x6_4).f0)) := (blk_cell BK150.out 0).trans rfl
                        have hcz64_1 : wr.cell? ⟨gb150, 1, none⟩ = some (.int .i64 ((rd_T40 l0_0 x6_4).f1)) := (blk_cell BK150.out 1).trans rfl
                        have hcz64_2 : wr.cell? ⟨gb150, 2, none⟩ = some (.int .i64 ((rd_T40 l0_0 x6_4).f2)) := (blk_cell BK150.out 2).trans rfl
                        have hcz64_3 : wr.cell? ⟨gb150, 3, none⟩ = some (.int .i64 ((rd_T40 l0_0 x6_4).f3)) := (blk_cell BK150.out 3).trans rfl
                        have hcz64_4 : wr.cell? ⟨gb150, 4, none⟩ = some (.slice A149_4 ((rd_T40 l0_0 x6_4).f4).length c149_4) := (blk_cell BK150.out 4).trans rfl
                        have hfz64_0 := fZ BK150 0
                        have hfz64_1 := fZ BK150 1
                        have hfz64_2 := fZ BK150 2
                        have hfz64_3 := fZ BK150 3
                        have hfz64_4 := fZ BK150 4
                        have hcz65_0 := cZ0 BK134
                        have hcz65_1 := cZ1 BK134
                        have hfz65_0 := fZ BK134 0
                        have hfz65_1 := fZ BK134 1
                        have p151 : 0 ≤ (x8_5 : Int) := dT
                        have q151 : x8_5 < (((rd_T40 l0_0 x6_4).f4).length : Int) := dT
                        obtain ⟨ad151, e151, hx151_0⟩ := Kd.at_int HR149_4.out x8_5 p151 q151
                        cases e151
                        replace hx151_0 := (HB.out.cell (World.block_lt_of_cell? w _ hx151_0)).trans hx151_0
                        replace p151 := eq_true p151
                        replace q151 := eq_true q151
                        have p152 : 0 ≤ ((rd ((rd_T40 l0_0 x6_4).f4) x8_5) : Int) := dT
                        have q152 : (rd ((rd_T40 l0_0 x6_4).f4) x8_5) < (l0_1.length : Int) := dT
                        obtain ⟨ad152, e152, hx152_0⟩ := Kd.at_string HR0_1.out (rd ((rd_T40 l0_0 x6_4).f4) x8_5) p152 q152
                        cases e152
                        replace hx152_0 := (HB.out.cell (World.block_lt_of_cell? w _ hx152_0)).trans hx152_0
                        replace p152 := eq_true p152
                        replace q152 := eq_true q152
                        go_wp2_with (first | (go_at_call 20; (with_reducible refine (spec_l6Long.calls ((rd_T40 l0_0 x6_4).f3) x8_5 t153 _ A58.out).mono ?_); rintro e w' ⟨rfl, ⟨nd, rfl⟩⟩; (try first | exact ⟨rfl, _, World.drewN_drewN _ _ _⟩ | exact ⟨rfl, _, Eq.trans (World.drewN_drewN _ _ _) (congrArg (World.drewN _) (Nat.add_assoc _ _ _))⟩)))
                        repeat (go_quiet (first | (go_at_call 20; (with_reducible refine (spec_l6Long.calls ((rd_T40 l0_0 x6_4).f3) x8_5 t153 _ A58.out).mono ?_); rintro e w' ⟨rfl, ⟨nd, rfl⟩⟩; (try first | exact ⟨rfl, _, World.drewN_drewN _ _ _⟩ | exact ⟨rfl, _, Eq.trans (World.drewN_drewN _ _ _) (congrArg (World.drewN _) (Nat.add_assoc _ _ _))⟩))); try go_wp2_with (first | (go_at_call 20; (with_reducible refine (spec_l6Long.calls ((rd_T40 l0_0 x6_4).f3) x8_5 t153 _ A58.out).mono ?_); rintro e w' ⟨rfl, ⟨nd, rfl⟩⟩; (try first | exact ⟨rfl, _, World.drewN_drewN _ _ _⟩ | exact ⟨rfl, _, Eq.trans (World.drewN_drewN _ _ _) (congrArg (World.drewN _) (Nat.add_assoc _ _ _))⟩))))
                        go_ret
                        exact ⟨eW, bB⟩
                      ·rw [if_neg c57] at H
                       exact absurd H (by simp)
                     ·rw [if_neg c56] at H
                      exact absurd H (by simp)
                    ·rw [if_neg c55] at H
                     exact absurd H (by simp)
                   ·rw [if_neg c54] at H
                    have c54b0 : decide (x8_5 < (((rd_T40 l0_0 x6_4).f4).length : Int)) = false := decide_eq_false c54
                    clear c54
                    have H' := aM H
                    clear H
                    have hnb66 := NB150_134.out
                    have hnc66 := NB134_150.out
                    have hcz67_0 : wr.cell? ⟨gb150, 0, none⟩ = some (.int .i64 ((rd_T40 l0_0 x6_4).f0)) := (blk_cell BK150.out 0).trans rfl
                    have hcz67_1 : wr.cell? ⟨gb150, 1, none⟩ = some (.int .i64 ((rd_T40 l0_0 x6_4).f1)) := (blk_cell BK150.out 1).trans rfl
                    have hcz67_2 : wr.cell? ⟨gb150, 2, none⟩ = some (.int .i64 ((rd_T40 l0_0 x6_4).f2)) := (blk_cell BK150.out 2).trans rfl
                    have hcz67_3 : wr.cell? ⟨gb150, 3, none⟩ = some (.int .i64 ((rd_T40 l0_0 x6_4).f3)) := (blk_cell BK150.out 3).trans rfl
                    have hcz67_4 : wr.cell? ⟨gb150, 4, none⟩ = some (.slice A149_4 ((rd_T40 l0_0 x6_4).f4).length c149_4) := (blk_cell BK150.out 4).trans rfl
                    have hfz67_0 := fZ BK150 0
                    have hfz67_1 := fZ BK150 1
                    have hfz67_2 := fZ BK150 2
                    have hfz67_3 := fZ BK150 3
                    have hfz67_4 := fZ BK150 4
                    go_wp2
                    repeat (go_quiet (fail); try go_wp2)
                    go_roundg k5
                    case measure => have := HJ1.out; have := HK2.out; have := HK3.out; have := HK4.out; have := HK5.out; omega
                    case rel => exact ⟨(wrap64 (x6_4 + 1)), (by first | rfl | (simp; done) | (simp [*]; done) | (simp; exact (by intro l_; cases l_ <;> rfl : ∀ l_ : List UInt8, l_.isEmpty = !(l_ != [])) _)), H', ⟨by have := HJ1.out; have := HK2.out; have := HK3.out; have := HK4.out; have := HK5.out; omega⟩, ⟨kP BK134⟩, ⟨bB⟩⟩
                ·rw [if_neg c49] at H
                 exact absurd H (by simp)
               ·rw [if_neg c48] at H
                have c48b0 : decide (x6_4 < (l0_0.length : Int)) = false := decide_eq_false c48
                clear c48
                obtain rfl := Option.some.inj H
                have hcz68_0 := cZ0 BK134
                have hcz68_1 := cZ1 BK134
                have hfz68_0 := fZ BK134 0
                have hfz68_1 := fZ BK134 1
                go_wp2
                repeat (go_quiet (fail); try go_wp2)
                go_ret
                exact ⟨eW, bB⟩
        ·rw [if_neg c23] at H
         exact absurd H (by simp)
       ·rw [if_neg c22] at H
        exact absurd H (by simp)

end Go.Proofs.Ytapliilimfgdjaa.PFnExactShapeOk
