-- Written by xprint.py, a program of this session over the kit's print. Not trusted: Lean checks it.
import Derived.Test.YtapliilimfgdjaaPFnExactFreeOfx0
import Derived.Test.YtapliilimfgdjaaPFnExactFreeOfx2
import Derived.Test.YtapliilimfgdjaaPFnExactFreeOfx3
import Derived.Test.YtapliilimfgdjaaPFnExactFreeOfx4
namespace Go.Proofs.Ytapliilimfgdjaa.PFnExactFreeOf
open Go.RowKit Go.Proofs.YtapliilimfgdjaaW.PrintWords Go.Proofs.YtapliilimfgdjaaW.PrintLast Go.Proofs.YtapliilimfgdjaaW.PrintMore
attribute [local go_sem] max2_int min2_int max_two min_two max_three min_three max_four min_four   -- for this text's walks alone
set_option linter.unusedVariables false
set_option linter.unusedSimpArgs false

/-! ### spec_ShapeOk: function 7 -/
mutual
def spec_ShapeOk.j0 : Nat → Bool → List (S40) → List ByteArray → Option (Bool)
 | 0, _, _, _ => none
 | k + 1, x28, x186000, x186001 => if x28 = true then (some false) else (spec_ShapeOk.l0 k 0 x186000 x186001)
def spec_ShapeOk.l0 : Nat → Int → List (S40) → List ByteArray → Option (Bool)
 | 0, _, _, _ => none
 | k + 1, x3, x186000, x186001 => if x3 < (x186000.length : Int) then (if 0 ≤ x3 then ((spec_NodeOk.f k ((rd_T40 x186000 x3).f0) ((rd_T40 x186000 x3).f1) ((rd_T40 x186000 x3).f2) ((rd_T40 x186000 x3).f3) ((rd_T40 x186000 x3).f4)).bind fun t190 => (if t190 = true then (spec_ShapeOk.l0 k (wrap64 (x3 + 1)) x186000 x186001) else (some false))) else (none)) else ((spec_l6Used.f k x186000 x186001).bind fun t191 => (if 0 ≤ (x186001.length : Int) then (if (x186001.length : Int) < (t191.length : Int) then (if (rd t191 (x186001.length : Int)) > 0 then (some false) else (spec_ShapeOk.l1 k t191 0 x186000 x186001)) else (none)) else (none)))
def spec_ShapeOk.l1 : Nat → List Int → Int → List (S40) → List ByteArray → Option (Bool)
 | 0, _, _, _, _ => none
 | k + 1, x4, x5, x186000, x186001 => if x5 < (x186001.length : Int) then (if 0 ≤ x5 then (if x5 < (x4.length : Int) then (if (rd x4 x5) > 1 then (some false) else (if (rd x4 x5) = 0 then (if (rdOf ByteArray.empty x186001 x5).toList = ([] : List UInt8) then (if ((rdOf ByteArray.empty x186001 x5).size : Int) > 16 then (some false) else (spec_ShapeOk.l1 k x4 (wrap64 (x5 + 1)) x186000 x186001)) else (some false)) else (if ((rdOf ByteArray.empty x186001 x5).size : Int) > 16 then (some false) else (spec_ShapeOk.l1 k x4 (wrap64 (x5 + 1)) x186000 x186001)))) else (none)) else (none)) else (spec_ShapeOk.l2 k 0 x186000 x186001)
def spec_ShapeOk.l2 : Nat → Int → List (S40) → List ByteArray → Option (Bool)
 | 0, _, _, _ => none
 | k + 1, x6, x186000, x186001 => if x6 < (x186000.length : Int) then (if 0 ≤ x6 then (spec_ShapeOk.l3 k x6 0 x186000 x186001 ((rd_T40 x186000 x6).f0) ((rd_T40 x186000 x6).f1) ((rd_T40 x186000 x6).f2) ((rd_T40 x186000 x6).f3) ((rd_T40 x186000 x6).f4)) else (none)) else (some true)
def spec_ShapeOk.l3 : Nat → Int → Int → List (S40) → List ByteArray → Int → Int → Int → Int → List Int → Option (Bool)
 | 0, _, _, _, _, _, _, _, _, _ => none
 | k + 1, x6, x8, x186000, x186001, x202000, x202001, x202002, x202003, x202004 => if x8 < (x202004.length : Int) then (if 0 ≤ x8 then (if 0 ≤ (rd x202004 x8) then (if (rd x202004 x8) < (x186001.length : Int) then ((spec_l6Long.f x202003 x8).bind fun t204 => (if ((rdOf ByteArray.empty x186001 (rd x202004 x8)).size : Int) = t204 then (spec_ShapeOk.l3 k x6 (wrap64 (x8 + 1)) x186000 x186001 x202000 x202001 x202002 x202003 x202004) else (some false))) else (none)) else (none)) else (none)) else (spec_ShapeOk.l2 k (wrap64 (x6 + 1)) x186000 x186001)
end
def spec_ShapeOk.f (k : Nat) (l0_0 : List (S40)) (l0_1 : List ByteArray) : Option (Bool) := (spec_l1In.f (l0_0.length : Int) 2 10).bind fun t186 => (if t186 = true then ((spec_l1In.f (l0_1.length : Int) 1 36).bind fun t187 => (if t187 = true then (if 0 < (l0_0.length : Int) then (spec_ShapeOk.j0 k (((rd_T40 l0_0 0).f0) != 2) l0_0 l0_1) else (none)) else (spec_ShapeOk.j0 k true l0_0 l0_1))) else (spec_ShapeOk.j0 k true l0_0 l0_1))
theorem spec_ShapeOk.mono_l : ∀ k, (∀ y0 y1 y2, LeO (spec_ShapeOk.j0 k y0 y1 y2) (spec_ShapeOk.j0 (k + 1) y0 y1 y2)) ∧ (∀ y0 y1 y2, LeO (spec_ShapeOk.l0 k y0 y1 y2) (spec_ShapeOk.l0 (k + 1) y0 y1 y2)) ∧ (∀ y0 y1 y2 y3, LeO (spec_ShapeOk.l1 k y0 y1 y2 y3) (spec_ShapeOk.l1 (k + 1) y0 y1 y2 y3)) ∧ (∀ y0 y1 y2, LeO (spec_ShapeOk.l2 k y0 y1 y2) (spec_ShapeOk.l2 (k + 1) y0 y1 y2)) ∧ (∀ y0 y1 y2 y3 y4 y5 y6 y7 y8, LeO (spec_ShapeOk.l3 k y0 y1 y2 y3 y4 y5 y6 y7 y8) (spec_ShapeOk.l3 (k + 1) y0 y1 y2 y3 y4 y5 y6 y7 y8))
 | 0 => ⟨fun _ _ _ r h => by simp [spec_ShapeOk.j0] at h, fun _ _ _ r h => by simp [spec_ShapeOk.l0] at h, fun _ _ _ _ r h => by simp [spec_ShapeOk.l1] at h, fun _ _ _ r h => by simp [spec_ShapeOk.l2] at h, fun _ _ _ _ _ _ _ _ _ r h => by simp [spec_ShapeOk.l3] at h⟩
 | k + 1 => by
  obtain ⟨ih0, ih1, ih2, ih3, ih4⟩ := spec_ShapeOk.mono_l k
  refine ⟨?_, ?_, ?_, ?_, ?_⟩
  ·intro y0 y1 y2
   unfold spec_ShapeOk.j0
   have m0_ := @spec_NodeOk.mono
   have m1_ := @spec_l6Used.mono
   exact mM
  ·intro y0 y1 y2
   unfold spec_ShapeOk.l0
   have m0_ := @spec_NodeOk.mono
   have m1_ := @spec_l6Used.mono
   exact mM
  ·intro y0 y1 y2 y3
   unfold spec_ShapeOk.l1
   have m0_ := @spec_NodeOk.mono
   have m1_ := @spec_l6Used.mono
   exact mM
  ·intro y0 y1 y2
   unfold spec_ShapeOk.l2
   have m0_ := @spec_NodeOk.mono
   have m1_ := @spec_l6Used.mono
   exact mM
  ·intro y0 y1 y2 y3 y4 y5 y6 y7 y8
   unfold spec_ShapeOk.l3
   have m0_ := @spec_NodeOk.mono
   have m1_ := @spec_l6Used.mono
   exact mM
theorem spec_ShapeOk.mono : ∀ a0 a1 k, LeO (spec_ShapeOk.f k a0 a1) (spec_ShapeOk.f (k + 1) a0 a1) := by
 intro a0 a1 k
 obtain ⟨ih0, ih1, ih2, ih3, ih4⟩ := spec_ShapeOk.mono_l k
 unfold spec_ShapeOk.f
 have m0_ := @spec_NodeOk.mono
 have m1_ := @spec_l6Used.mono
 exact mM
set_option maxHeartbeats 8000000 in
set_option maxRecDepth 100000 in
theorem spec_ShapeOk.calls (k : Nat) (A0_0 : Option Addr) (c0_0 : Nat) (l0_0 : List (S40)) (A0_1 : Option Addr) (c0_1 : Nat) (l0_1 : List ByteArray) (r : Bool) (w : World) (hr0_0 : Kd.C k40 w A0_0 l0_0.length l0_0) (hc0_0 : l0_0.length ≤ c0_0) (hr0_1 : Kd.C Kd.string w A0_1 l0_1.length l0_1) (hc0_1 : l0_1.length ≤ c0_1) (h : spec_ShapeOk.f k l0_0 l0_1 = some r) :
  Calls Try.prog 7 #[.agg #[.slice A0_0 l0_0.length c0_0, .slice A0_1 l0_1.length c0_1]] w fun e w' => e = .returned (.bool r) ∧ Below w.heap.size w w' := by
 have hu30 := Try.underlying30
 have hu40 := Try.underlying40
 have HR0_0 := aM hr0_0
 have HC0_0 := aM hc0_0
 clear hr0_0 hc0_0
 have HR0_1 := aM hr0_1
 have HC0_1 := aM hc0_1
 clear hr0_1 hc0_1
 have HB := aM (Below.refl w.heap.size w)
 unfold spec_ShapeOk.f at h
 have H := h
 clear h
 have HC2 := aM H
 clear H
 go_enter Try.func7, Try.ntmps7
 go_upto_region 1 with (first | ((with_reducible refine gate_dst (N := 1) rfl ?_); (try (refine gate_guard (by rfl) ?_; dsimp only)); refine box_event ?hg (N := 1) ?hd (cs := #[.slice A0_0 l0_0.length c0_0, .slice A0_1 l0_1.length c0_1]) (t := 30) ?hr ?_; (case hd => rfl); (case hg => rfl); (case hr => first | (go_simp; done) | (go_simp; rfl)); intro gb185 hg w3 hbox hb; have n_ := aI (sB HB hb) (aI (aM hbox) (aI (gE HB hg) (gE HB hg))); clear HB; obtain ⟨HB, BK185, GW185, GE185⟩ := n_; (try clear hb hbox hg)))
 repeat (go_quiet (first | ((with_reducible refine gate_dst (N := 1) rfl ?_); (try (refine gate_guard (by rfl) ?_; dsimp only)); refine box_event ?hg (N := 1) ?hd (cs := #[.slice A0_0 l0_0.length c0_0, .slice A0_1 l0_1.length c0_1]) (t := 30) ?hr ?_; (case hd => rfl); (case hg => rfl); (case hr => first | (go_simp; done) | (go_simp; rfl)); intro gb185 hg w3 hbox hb; have n_ := aI (sB HB hb) (aI (aM hbox) (aI (gE HB hg) (gE HB hg))); clear HB; obtain ⟨HB, BK185, GW185, GE185⟩ := n_; (try clear hb hbox hg))); go_upto_region 1 with (first | ((with_reducible refine gate_dst (N := 1) rfl ?_); (try (refine gate_guard (by rfl) ?_; dsimp only)); refine box_event ?hg (N := 1) ?hd (cs := #[.slice A0_0 l0_0.length c0_0, .slice A0_1 l0_1.length c0_1]) (t := 30) ?hr ?_; (case hd => rfl); (case hg => rfl); (case hr => first | (go_simp; done) | (go_simp; rfl)); intro gb185 hg w3 hbox hb; have n_ := aI (sB HB hb) (aI (aM hbox) (aI (gE HB hg) (gE HB hg))); clear HB; obtain ⟨HB, BK185, GW185, GE185⟩ := n_; (try clear hb hbox hg))))
 (try simp only [Act.put, List.setIfInBounds_toArray, List.set_cons_zero, List.set_cons_succ])
 go_cut [28] (fun v28 wc => ∃ (kq : Nat) (x28_1 : Bool), v28 = .bool x28_1 ∧ Aside0 (spec_ShapeOk.j0 kq x28_1 l0_0 l0_1 = some r) ∧ Aside0 (kq ≤ k) ∧ Aside0 (wc.heap[gb185]? = some (.cells #[(.slice A0_0 l0_0.length c0_0), (.slice A0_1 l0_1.length c0_1)] 30 (0, 0))) ∧ Aside0 (Below w.heap.size w wc))
 case first =>
  have H := HC2.out
  clear HC2
  replace H := Option.bind_eq_some_iff.mp H
  obtain ⟨t186, A40, H⟩ := H
  try dsimp only at H
  have A4 := aM A40
  clear A40
  by_cases c5 : t186 = true
  ·subst c5
   rw [if_pos rfl] at H
   replace H := Option.bind_eq_some_iff.mp H
   obtain ⟨t187, A60, H⟩ := H
   try dsimp only at H
   have A6 := aM A60
   clear A60
   by_cases c7 : t187 = true
   ·subst c7
    rw [if_pos rfl] at H
    by_cases c8 : 0 < (l0_0.length : Int)
    ·rw [if_pos c8] at H
     have c8b0 : decide (0 < (l0_0.length : Int)) = true := decide_eq_true c8
     have c8b1 : decide (0 < l0_0.length) = true := decide_eq_true (by omega)
     clear c8
     (first | rw [c8b0] | (simp only [i64_w, i32_w]; rw [c8b0]) | rw [c8b1] | rw [c8b2] | skip)
     have H' := aM H
     clear H
     have hcz9_0 := cZ0 BK185
     have hcz9_1 := cZ1 BK185
     have hfz9_0 := fZ BK185 0
     have hfz9_1 := fZ BK185 1
     go_wp2_with (first | (go_at_call 17; (with_reducible refine (spec_l1In.calls (l0_0.length : Int) 2 10 true _ A4.out).mono ?_); rintro e w' ⟨rfl, ⟨nd, rfl⟩⟩; (try first | exact ⟨rfl, _, World.drewN_drewN _ _ _⟩ | exact ⟨rfl, _, Eq.trans (World.drewN_drewN _ _ _) (congrArg (World.drewN _) (Nat.add_assoc _ _ _))⟩)) | (go_at_call 17; (with_reducible refine (spec_l1In.calls (l0_1.length : Int) 1 36 true _ A6.out).mono ?_); rintro e w' ⟨rfl, ⟨nd, rfl⟩⟩; (try first | exact ⟨rfl, _, World.drewN_drewN _ _ _⟩ | exact ⟨rfl, _, Eq.trans (World.drewN_drewN _ _ _) (congrArg (World.drewN _) (Nat.add_assoc _ _ _))⟩); have p188 : 0 ≤ (0 : Int) := (by omega); have q188 : 0 < (l0_0.length : Int) := dT; obtain ⟨ad188, A188_4, c188_4, e188, hx188_0, hx188_1, hx188_2, hx188_3, hx188_4, hl188_4, hi188_4⟩ := at_T40 HR0_0.out 0 p188 q188; cases e188; have qi188 : (0 < l0_0.length) = True := eq_true (by omega); (try rw [show ((0 : Int)).toNat = 0 from rfl] at hx188_0); (try rw [show 0 * 5 = 0 from rfl] at hx188_0); (try rw [Addr.add_zero'] at hx188_0); (try rw [show ((0 : Int)).toNat = 0 from rfl] at hx188_1); (try rw [show 0 * 5 = 0 from rfl] at hx188_1); (try rw [Addr.add_zero'] at hx188_1); (try rw [show ((0 : Int)).toNat = 0 from rfl] at hx188_2); (try rw [show 0 * 5 = 0 from rfl] at hx188_2); (try rw [Addr.add_zero'] at hx188_2); (try rw [show ((0 : Int)).toNat = 0 from rfl] at hx188_3); (try rw [show 0 * 5 = 0 from rfl] at hx188_3); (try rw [Addr.add_zero'] at hx188_3); (try rw [show ((0 : Int)).toNat = 0 from rfl] at hx188_4); (try rw [show 0 * 5 = 0 from rfl] at hx188_4); (try rw [Addr.add_zero'] at hx188_4); replace hx188_0 := (HB.out.cell (World.block_lt_of_cell? w _ hx188_0)).trans hx188_0; replace hx188_1 := (HB.out.cell (World.block_lt_of_cell? w _ hx188_1)).trans hx188_1; replace hx188_2 := (HB.out.cell (World.block_lt_of_cell? w _ hx188_2)).trans hx188_2; replace hx188_3 := (HB.out.cell (World.block_lt_of_cell? w _ hx188_3)).trans hx188_3; replace hx188_4 := (HB.out.cell (World.block_lt_of_cell? w _ hx188_4)).trans hx188_4; have HR188_4 := aM hi188_4; have HC188_4 := aM hl188_4; clear hi188_4 hl188_4; replace p188 := eq_true p188; replace q188 := eq_true q188))
     repeat (go_quiet (first | (go_at_call 17; (with_reducible refine (spec_l1In.calls (l0_0.length : Int) 2 10 true _ A4.out).mono ?_); rintro e w' ⟨rfl, ⟨nd, rfl⟩⟩; (try first | exact ⟨rfl, _, World.drewN_drewN _ _ _⟩ | exact ⟨rfl, _, Eq.trans (World.drewN_drewN _ _ _) (congrArg (World.drewN _) (Nat.add_assoc _ _ _))⟩)) | (go_at_call 17; (with_reducible refine (spec_l1In.calls (l0_1.length : Int) 1 36 true _ A6.out).mono ?_); rintro e w' ⟨rfl, ⟨nd, rfl⟩⟩; (try first | exact ⟨rfl, _, World.drewN_drewN _ _ _⟩ | exact ⟨rfl, _, Eq.trans (World.drewN_drewN _ _ _) (congrArg (World.drewN _) (Nat.add_assoc _ _ _))⟩); have p188 : 0 ≤ (0 : Int) := (by omega); have q188 : 0 < (l0_0.length : Int) := dT; obtain ⟨ad188, A188_4, c188_4, e188, hx188_0, hx188_1, hx188_2, hx188_3, hx188_4, hl188_4, hi188_4⟩ := at_T40 HR0_0.out 0 p188 q188; cases e188; have qi188 : (0 < l0_0.length) = True := eq_true (by omega); (try rw [show ((0 : Int)).toNat = 0 from rfl] at hx188_0); (try rw [show 0 * 5 = 0 from rfl] at hx188_0); (try rw [Addr.add_zero'] at hx188_0); (try rw [show ((0 : Int)).toNat = 0 from rfl] at hx188_1); (try rw [show 0 * 5 = 0 from rfl] at hx188_1); (try rw [Addr.add_zero'] at hx188_1); (try rw [show ((0 : Int)).toNat = 0 from rfl] at hx188_2); (try rw [show 0 * 5 = 0 from rfl] at hx188_2); (try rw [Addr.add_zero'] at hx188_2); (try rw [show ((0 : Int)).toNat = 0 from rfl] at hx188_3); (try rw [show 0 * 5 = 0 from rfl] at hx188_3); (try rw [Addr.add_zero'] at hx188_3); (try rw [show ((0 : Int)).toNat = 0 from rfl] at hx188_4); (try rw [show 0 * 5 = 0 from rfl] at hx188_4); (try rw [Addr.add_zero'] at hx188_4); replace hx188_0 := (HB.out.cell (World.block_lt_of_cell? w _ hx188_0)).trans hx188_0; replace hx188_1 := (HB.out.cell (World.block_lt_of_cell? w _ hx188_1)).trans hx188_1; replace hx188_2 := (HB.out.cell (World.block_lt_of_cell? w _ hx188_2)).trans hx188_2; replace hx188_3 := (HB.out.cell (World.block_lt_of_cell? w _ hx188_3)).trans hx188_3; replace hx188_4 := (HB.out.cell (World.block_lt_of_cell? w _ hx188_4)).trans hx188_4; have HR188_4 := aM hi188_4; have HC188_4 := aM hl188_4; clear hi188_4 hl188_4; replace p188 := eq_true p188; replace q188 := eq_true q188)); try go_wp2_with (first | (go_at_call 17; (with_reducible refine (spec_l1In.calls (l0_0.length : Int) 2 10 true _ A4.out).mono ?_); rintro e w' ⟨rfl, ⟨nd, rfl⟩⟩; (try first | exact ⟨rfl, _, World.drewN_drewN _ _ _⟩ | exact ⟨rfl, _, Eq.trans (World.drewN_drewN _ _ _) (congrArg (World.drewN _) (Nat.add_assoc _ _ _))⟩)) | (go_at_call 17; (with_reducible refine (spec_l1In.calls (l0_1.length : Int) 1 36 true _ A6.out).mono ?_); rintro e w' ⟨rfl, ⟨nd, rfl⟩⟩; (try first | exact ⟨rfl, _, World.drewN_drewN _ _ _⟩ | exact ⟨rfl, _, Eq.trans (World.drewN_drewN _ _ _) (congrArg (World.drewN _) (Nat.add_assoc _ _ _))⟩); have p188 : 0 ≤ (0 : Int) := (by omega); have q188 : 0 < (l0_0.length : Int) := dT; obtain ⟨ad188, A188_4, c188_4, e188, hx188_0, hx188_1, hx188_2, hx188_3, hx188_4, hl188_4, hi188_4⟩ := at_T40 HR0_0.out 0 p188 q188; cases e188; have qi188 : (0 < l0_0.length) = True := eq_true (by omega); (try rw [show ((0 : Int)).toNat = 0 from rfl] at hx188_0); (try rw [show 0 * 5 = 0 from rfl] at hx188_0); (try rw [Addr.add_zero'] at hx188_0); (try rw [show ((0 : Int)).toNat = 0 from rfl] at hx188_1); (try rw [show 0 * 5 = 0 from rfl] at hx188_1); (try rw [Addr.add_zero'] at hx188_1); (try rw [show ((0 : Int)).toNat = 0 from rfl] at hx188_2); (try rw [show 0 * 5 = 0 from rfl] at hx188_2); (try rw [Addr.add_zero'] at hx188_2); (try rw [show ((0 : Int)).toNat = 0 from rfl] at hx188_3); (try rw [show 0 * 5 = 0 from rfl] at hx188_3); (try rw [Addr.add_zero'] at hx188_3); (try rw [show ((0 : Int)).toNat = 0 from rfl] at hx188_4); (try rw [show 0 * 5 = 0 from rfl] at hx188_4); (try rw [Addr.add_zero'] at hx188_4); replace hx188_0 := (HB.out.cell (World.block_lt_of_cell? w _ hx188_0)).trans hx188_0; replace hx188_1 := (HB.out.cell (World.block_lt_of_cell? w _ hx188_1)).trans hx188_1; replace hx188_2 := (HB.out.cell (World.block_lt_of_cell? w _ hx188_2)).trans hx188_2; replace hx188_3 := (HB.out.cell (World.block_lt_of_cell? w _ hx188_3)).trans hx188_3; replace hx188_4 := (HB.out.cell (World.block_lt_of_cell? w _ hx188_4)).trans hx188_4; have HR188_4 := aM hi188_4; have HC188_4 := aM hl188_4; clear hi188_4 hl188_4; replace p188 := eq_true p188; replace q188 := eq_true q188)))
     go_meet
     case rel => exact ⟨_, ((((rd_T40 l0_0 0).f0) != 2)), (by first | rfl | (simp; done) | (simp [*]; done) | (simp; exact (by intro l_; cases l_ <;> rfl : ∀ l_ : List UInt8, l_.isEmpty = !(l_ != [])) _)), H', ⟨by first | omega | exact Nat.le_refl _⟩, ⟨kP BK185⟩, ⟨bB⟩⟩
    rw [if_neg c8] at H
    exact absurd H (by simp)
   replace c7 := Bool.eq_false_iff.mpr c7
   subst c7
   rw [if_neg (show ¬ (false = true) by decide)] at H
   have H' := aM H
   clear H
   have hcz10_0 := cZ0 BK185
   have hcz10_1 := cZ1 BK185
   have hfz10_0 := fZ BK185 0
   have hfz10_1 := fZ BK185 1
   go_wp2_with (first | (go_at_call 17; (with_reducible refine (spec_l1In.calls (l0_0.length : Int) 2 10 true _ A4.out).mono ?_); rintro e w' ⟨rfl, ⟨nd, rfl⟩⟩; (try first | exact ⟨rfl, _, World.drewN_drewN _ _ _⟩ | exact ⟨rfl, _, Eq.trans (World.drewN_drewN _ _ _) (congrArg (World.drewN _) (Nat.add_assoc _ _ _))⟩)) | (go_at_call 17; (with_reducible refine (spec_l1In.calls (l0_1.length : Int) 1 36 false _ A6.out).mono ?_); rintro e w' ⟨rfl, ⟨nd, rfl⟩⟩; (try first | exact ⟨rfl, _, World.drewN_drewN _ _ _⟩ | exact ⟨rfl, _, Eq.trans (World.drewN_drewN _ _ _) (congrArg (World.drewN _) (Nat.add_assoc _ _ _))⟩)))
   repeat (go_quiet (first | (go_at_call 17; (with_reducible refine (spec_l1In.calls (l0_0.length : Int) 2 10 true _ A4.out).mono ?_); rintro e w' ⟨rfl, ⟨nd, rfl⟩⟩; (try first | exact ⟨rfl, _, World.drewN_drewN _ _ _⟩ | exact ⟨rfl, _, Eq.trans (World.drewN_drewN _ _ _) (congrArg (World.drewN _) (Nat.add_assoc _ _ _))⟩)) | (go_at_call 17; (with_reducible refine (spec_l1In.calls (l0_1.length : Int) 1 36 false _ A6.out).mono ?_); rintro e w' ⟨rfl, ⟨nd, rfl⟩⟩; (try first | exact ⟨rfl, _, World.drewN_drewN _ _ _⟩ | exact ⟨rfl, _, Eq.trans (World.drewN_drewN _ _ _) (congrArg (World.drewN _) (Nat.add_assoc _ _ _))⟩))); try go_wp2_with (first | (go_at_call 17; (with_reducible refine (spec_l1In.calls (l0_0.length : Int) 2 10 true _ A4.out).mono ?_); rintro e w' ⟨rfl, ⟨nd, rfl⟩⟩; (try first | exact ⟨rfl, _, World.drewN_drewN _ _ _⟩ | exact ⟨rfl, _, Eq.trans (World.drewN_drewN _ _ _) (congrArg (World.drewN _) (Nat.add_assoc _ _ _))⟩)) | (go_at_call 17; (with_reducible refine (spec_l1In.calls (l0_1.length : Int) 1 36 false _ A6.out).mono ?_); rintro e w' ⟨rfl, ⟨nd, rfl⟩⟩; (try first | exact ⟨rfl, _, World.drewN_drewN _ _ _⟩ | exact ⟨rfl, _, Eq.trans (World.drewN_drewN _ _ _) (congrArg (World.drewN _) (Nat.add_assoc _ _ _))⟩))))
   go_meet
   case rel => exact ⟨_, (true), (by first | rfl | (simp; done) | (simp [*]; done) | (simp; exact (by intro l_; cases l_ <;> rfl : ∀ l_ : List UInt8, l_.isEmpty = !(l_ != [])) _)), H', ⟨by first | omega | exact Nat.le_refl _⟩, ⟨kP BK185⟩, ⟨bB⟩⟩
  replace c5 := Bool.eq_false_iff.mpr c5
  subst c5
  rw [if_neg (show ¬ (false = true) by decide)] at H
  have H' := aM H
  clear H
  have hcz11_0 := cZ0 BK185
  have hcz11_1 := cZ1 BK185
  have hfz11_0 := fZ BK185 0
  have hfz11_1 := fZ BK185 1
  go_wp2_with (first | (go_at_call 17; (with_reducible refine (spec_l1In.calls (l0_0.length : Int) 2 10 false _ A4.out).mono ?_); rintro e w' ⟨rfl, ⟨nd, rfl⟩⟩; (try first | exact ⟨rfl, _, World.drewN_drewN _ _ _⟩ | exact ⟨rfl, _, Eq.trans (World.drewN_drewN _ _ _) (congrArg (World.drewN _) (Nat.add_assoc _ _ _))⟩)))
  repeat (go_quiet (first | (go_at_call 17; (with_reducible refine (spec_l1In.calls (l0_0.length : Int) 2 10 false _ A4.out).mono ?_); rintro e w' ⟨rfl, ⟨nd, rfl⟩⟩; (try first | exact ⟨rfl, _, World.drewN_drewN _ _ _⟩ | exact ⟨rfl, _, Eq.trans (World.drewN_drewN _ _ _) (congrArg (World.drewN _) (Nat.add_assoc _ _ _))⟩))); try go_wp2_with (first | (go_at_call 17; (with_reducible refine (spec_l1In.calls (l0_0.length : Int) 2 10 false _ A4.out).mono ?_); rintro e w' ⟨rfl, ⟨nd, rfl⟩⟩; (try first | exact ⟨rfl, _, World.drewN_drewN _ _ _⟩ | exact ⟨rfl, _, Eq.trans (World.drewN_drewN _ _ _) (congrArg (World.drewN _) (Nat.add_assoc _ _ _))⟩))))
  go_meet
  case rel => exact ⟨_, (true), (by first | rfl | (simp; done) | (simp [*]; done) | (simp; exact (by intro l_; cases l_ <;> rfl : ∀ l_ : List UInt8, l_.isEmpty = !(l_ != [])) _)), H', ⟨by first | omega | exact Nat.le_refl _⟩, ⟨kP BK185⟩, ⟨bB⟩⟩
 case rest =>
  clear HC2
  try clear c1
  try clear p1
  try clear q1
  try clear hx1
  try clear qi1
  try clear p2
  try clear c5
  try clear c7
  try clear c8
  try clear c8b0
  try clear c8b1
  try clear c8b2
  try clear hcz10_0
  try clear hcz10_1
  try clear hcz11_0
  try clear hcz11_1
  try clear hcz9_0
  try clear hcz9_1
  try clear hfz10_0
  try clear hfz10_1
  try clear hfz11_0
  try clear hfz11_1
  try clear hfz9_0
  try clear hfz9_1
  try clear hx188_0
  try clear hx188_1
  try clear hx188_2
  try clear hx188_3
  try clear hx188_4
  try clear p188
  try clear q188
  obtain ⟨kq, x28_1, rfl, HA, HJ1, BK185, HB⟩ := hcut
  cases kq with
  | zero => exact absurd HA.out (by simp [spec_ShapeOk.j0])
  | succ kj1 =>
   have H := HA.out
   clear HA
   simp only [spec_ShapeOk.j0] at H
   by_cases c12 : x28_1 = true
   ·subst c12
    rw [if_pos rfl] at H
    obtain rfl := Option.some.inj H
    go_wp2
    repeat (go_quiet (fail); try go_wp2)
    go_ret
    exact ⟨eW, bB⟩
   ·replace c12 := Bool.eq_false_iff.mpr c12
    subst c12
    rw [if_neg (show ¬ (false = true) by decide)] at H
    have H' := aM H
    clear H
    go_wp2
    repeat (go_quiet (fail); try go_wp2)
    go_loopg [3] kj1 (fun kq v3 w' => ∃ (x3_2 : Int), v3 = .int .i64 x3_2 ∧ Aside0 (spec_ShapeOk.l0 kq x3_2 l0_0 l0_1 = some r) ∧ Aside0 (kq ≤ kj1) ∧ Aside0 (w'.heap[gb185]? = some (.cells #[(.slice A0_0 l0_0.length c0_0), (.slice A0_1 l0_1.length c0_1)] 30 (0, 0))) ∧ Aside0 (Below w.heap.size w w'))
    case atStart => exact ⟨(0), (by first | rfl | (simp; done) | (simp [*]; done) | (simp; exact (by intro l_; cases l_ <;> rfl : ∀ l_ : List UInt8, l_.isEmpty = !(l_ != [])) _)), H', ⟨Nat.le_refl _⟩, ⟨kP BK185⟩, ⟨bB⟩⟩
    case round =>
     clear H'
     try clear c1
     try clear p1
     try clear q1
     try clear hx1
     try clear qi1
     try clear p2
     try clear c5
     try clear c7
     try clear c8
     try clear c8b0
     try clear c8b1
     try clear c8b2
     try clear c12
     try clear hcz10_0
     try clear hcz10_1
     try clear hcz11_0
     try clear hcz11_1
     try clear hcz9_0
     try clear hcz9_1
     try clear hfz10_0
     try clear hfz10_1
     try clear hfz11_0
     try clear hfz11_1
     try clear hfz9_0
     try clear hfz9_1
     try clear hx188_0
     try clear hx188_1
     try clear hx188_2
     try clear hx188_3
     try clear hx188_4
     try clear p1
     try clear p188
     try clear p2
     try clear q1
     try clear q188
     obtain ⟨x3_2, rfl, HA, HK2, BK185, HB⟩ := hrel
     cases gk with
     | zero => exact absurd HA.out (by simp [spec_ShapeOk.l0])
     | succ k2 =>
      have H := HA.out
      clear HA
      simp only [spec_ShapeOk.l0] at H
      by_cases c13 : x3_2 < (l0_0.length : Int)
      ·rw [if_pos c13] at H
       have c13b0 : decide (x3_2 < (l0_0.length : Int)) = true := decide_eq_true c13
       clear c13
       by_cases c14 : 0 ≤ x3_2
       ·rw [if_pos c14] at H
        have c14b0 : decide (0 ≤ x3_2) = true := decide_eq_true c14
        clear c14
        replace H := Option.bind_eq_some_iff.mp H
        obtain ⟨t190, A150, H⟩ := H
        try dsimp only at H
        have A15 := aM A150
        clear A150
        by_cases c16 : t190 = true
        ·subst c16
         rw [if_pos rfl] at H
         have H' := aM H
         clear H
         have hcz17_0 := cZ0 BK185
         have hcz17_1 := cZ1 BK185
         have hfz17_0 := fZ BK185 0
         have hfz17_1 := fZ BK185 1
         have p189 : 0 ≤ (x3_2 : Int) := dT
         have q189 : x3_2 < (l0_0.length : Int) := dT
         obtain ⟨ad189, A189_4, c189_4, e189, hx189_0, hx189_1, hx189_2, hx189_3, hx189_4, hl189_4, hi189_4⟩ := at_T40 HR0_0.out x3_2 p189 q189
         cases e189
         replace hx189_0 := (HB.out.cell (World.block_lt_of_cell? w _ hx189_0)).trans hx189_0
         replace hx189_1 := (HB.out.cell (World.block_lt_of_cell? w _ hx189_1)).trans hx189_1
         replace hx189_2 := (HB.out.cell (World.block_lt_of_cell? w _ hx189_2)).trans hx189_2
         replace hx189_3 := (HB.out.cell (World.block_lt_of_cell? w _ hx189_3)).trans hx189_3
         replace hx189_4 := (HB.out.cell (World.block_lt_of_cell? w _ hx189_4)).trans hx189_4
         have HR189_4 := aM hi189_4
         have HC189_4 := aM hl189_4
         clear hi189_4 hl189_4
         replace p189 := eq_true p189
         replace q189 := eq_true q189
         go_wp2_with (first | (go_at_call 18; (with_reducible refine (spec_NodeOk.calls k2 ((rd_T40 l0_0 x3_2).f0) ((rd_T40 l0_0 x3_2).f1) ((rd_T40 l0_0 x3_2).f2) ((rd_T40 l0_0 x3_2).f3) _ _ ((rd_T40 l0_0 x3_2).f4) true _ ?side1 ?side2 A15.out).mono ?_); (case side1 => exact cS HR189_4 HB); (case side2 => exact HC189_4.out); rintro e w18 ⟨rfl, hb⟩; have n_ := aI (kB BK185 hb) (sB HB hb); clear BK185 HB; obtain ⟨BK185, HB⟩ := n_; (try clear hb)))
         repeat (go_quiet (first | (go_at_call 18; (with_reducible refine (spec_NodeOk.calls k2 ((rd_T40 l0_0 x3_2).f0) ((rd_T40 l0_0 x3_2).f1) ((rd_T40 l0_0 x3_2).f2) ((rd_T40 l0_0 x3_2).f3) _ _ ((rd_T40 l0_0 x3_2).f4) true _ ?side1 ?side2 A15.out).mono ?_); (case side1 => exact cS HR189_4 HB); (case side2 => exact HC189_4.out); rintro e w18 ⟨rfl, hb⟩; have n_ := aI (kB BK185 hb) (sB HB hb); clear BK185 HB; obtain ⟨BK185, HB⟩ := n_; (try clear hb))); try go_wp2_with (first | (go_at_call 18; (with_reducible refine (spec_NodeOk.calls k2 ((rd_T40 l0_0 x3_2).f0) ((rd_T40 l0_0 x3_2).f1) ((rd_T40 l0_0 x3_2).f2) ((rd_T40 l0_0 x3_2).f3) _ _ ((rd_T40 l0_0 x3_2).f4) true _ ?side1 ?side2 A15.out).mono ?_); (case side1 => exact cS HR189_4 HB); (case side2 => exact HC189_4.out); rintro e w18 ⟨rfl, hb⟩; have n_ := aI (kB BK185 hb) (sB HB hb); clear BK185 HB; obtain ⟨BK185, HB⟩ := n_; (try clear hb))))
         go_roundg k2
         case measure => have := HJ1.out; have := HK2.out; omega
         case rel => exact ⟨(wrap64 (x3_2 + 1)), (by first | rfl | (simp; done) | (simp [*]; done) | (simp; exact (by intro l_; cases l_ <;> rfl : ∀ l_ : List UInt8, l_.isEmpty = !(l_ != [])) _)), H', ⟨by have := HJ1.out; have := HK2.out; omega⟩, ⟨kP BK185⟩, ⟨bB⟩⟩
        ·replace c16 := Bool.eq_false_iff.mpr c16
         subst c16
         rw [if_neg (show ¬ (false = true) by decide)] at H
         obtain rfl := Option.some.inj H
         have hcz19_0 := cZ0 BK185
         have hcz19_1 := cZ1 BK185
         have hfz19_0 := fZ BK185 0
         have hfz19_1 := fZ BK185 1
         have p189 : 0 ≤ (x3_2 : Int) := dT
         have q189 : x3_2 < (l0_0.length : Int) := dT
         obtain ⟨ad189, A189_4, c189_4, e189, hx189_0, hx189_1, hx189_2, hx189_3, hx189_4, hl189_4, hi189_4⟩ := at_T40 HR0_0.out x3_2 p189 q189
         cases e189
         replace hx189_0 := (HB.out.cell (World.block_lt_of_cell? w _ hx189_0)).trans hx189_0
         replace hx189_1 := (HB.out.cell (World.block_lt_of_cell? w _ hx189_1)).trans hx189_1
         replace hx189_2 := (HB.out.cell (World.block_lt_of_cell? w _ hx189_2)).trans hx189_2
         replace hx189_3 := (HB.out.cell (World.block_lt_of_cell? w _ hx189_3)).trans hx189_3
         replace hx189_4 := (HB.out.cell (World.block_lt_of_cell? w _ hx189_4)).trans hx189_4
         have HR189_4 := aM hi189_4
         have HC189_4 := aM hl189_4
         clear hi189_4 hl189_4
         replace p189 := eq_true p189
         replace q189 := eq_true q189
         go_wp2_with (first | (go_at_call 18; (with_reducible refine (spec_NodeOk.calls k2 ((rd_T40 l0_0 x3_2).f0) ((rd_T40 l0_0 x3_2).f1) ((rd_T40 l0_0 x3_2).f2) ((rd_T40 l0_0 x3_2).f3) _ _ ((rd_T40 l0_0 x3_2).f4) false _ ?side1 ?side2 A15.out).mono ?_); (case side1 => exact cS HR189_4 HB); (case side2 => exact HC189_4.out); rintro e w20 ⟨rfl, hb⟩; have n_ := aI (kB BK185 hb) (sB HB hb); clear BK185 HB; obtain ⟨BK185, HB⟩ := n_; (try clear hb)))
         repeat (go_quiet (first | (go_at_call 18; (with_reducible refine (spec_NodeOk.calls k2 ((rd_T40 l0_0 x3_2).f0) ((rd_T40 l0_0 x3_2).f1) ((rd_T40 l0_0 x3_2).f2) ((rd_T40 l0_0 x3_2).f3) _ _ ((rd_T40 l0_0 x3_2).f4) false _ ?side1 ?side2 A15.out).mono ?_); (case side1 => exact cS HR189_4 HB); (case side2 => exact HC189_4.out); rintro e w20 ⟨rfl, hb⟩; have n_ := aI (kB BK185 hb) (sB HB hb); clear BK185 HB; obtain ⟨BK185, HB⟩ := n_; (try clear hb))); try go_wp2_with (first | (go_at_call 18; (with_reducible refine (spec_NodeOk.calls k2 ((rd_T40 l0_0 x3_2).f0) ((rd_T40 l0_0 x3_2).f1) ((rd_T40 l0_0 x3_2).f2) ((rd_T40 l0_0 x3_2).f3) _ _ ((rd_T40 l0_0 x3_2).f4) false _ ?side1 ?side2 A15.out).mono ?_); (case side1 => exact cS HR189_4 HB); (case side2 => exact HC189_4.out); rintro e w20 ⟨rfl, hb⟩; have n_ := aI (kB BK185 hb) (sB HB hb); clear BK185 HB; obtain ⟨BK185, HB⟩ := n_; (try clear hb))))
         go_ret
         exact ⟨eW, bB⟩
       ·rw [if_neg c14] at H
        exact absurd H (by simp)
      ·rw [if_neg c13] at H
       have c13b0 : decide (x3_2 < (l0_0.length : Int)) = false := decide_eq_false c13
       clear c13
       replace H := Option.bind_eq_some_iff.mp H
       obtain ⟨t191, A210, H⟩ := H
       try dsimp only at H
       have A21 := aM A210
       clear A210
       by_cases c22 : 0 ≤ (l0_1.length : Int)
       ·rw [if_pos c22] at H
        have c22b0 : decide (0 ≤ (l0_1.length : Int)) = true := decide_eq_true c22
        have c22b1 : decide (0 ≤ l0_1.length) = true := decide_eq_true (by omega)
        clear c22
        by_cases c23 : (l0_1.length : Int) < (t191.length : Int)
        ·rw [if_pos c23] at H
         have c23b0 : decide ((l0_1.length : Int) < (t191.length : Int)) = true := decide_eq_true c23
         have c23b1 : decide (l0_1.length < t191.length) = true := decide_eq_true (Int.ofNat_lt.mp c23)
         clear c23
         by_cases c24 : (rd t191 (l0_1.length : Int)) > 0
         ·rw [if_pos c24] at H
          have c24b0 : decide (0 < (rd t191 (l0_1.length : Int))) = true := decide_eq_true c24
          clear c24
          obtain rfl := Option.some.inj H
          have hcz25_0 := cZ0 BK185
          have hcz25_1 := cZ1 BK185
          have hfz25_0 := fZ BK185 0
          have hfz25_1 := fZ BK185 1
          go_wp2_with (first | (go_at_call 19; (with_reducible refine (spec_l6Used.calls k2 _ _ l0_0 _ _ l0_1 t191 _ ?side1 ?side2 ?side3 ?side4 A21.out).mono ?_); (case side1 => exact cS HR0_0 HB); (case side2 => exact HC0_0.out); (case side3 => exact cS HR0_1 HB); (case side4 => exact HC0_1.out); rintro e w26 ⟨v192, rfl, ho0, hb⟩; have n_ := aI (lR HB ho0) (aI (kB BK185 hb) (sB HB hb)); clear BK185 HB; obtain ⟨HO193, BK185, HB⟩ := n_; (try clear hb ho0); have hcz27_0 := cZ0 BK185; have hcz27_1 := cZ1 BK185; have hfz27_0 := fZ BK185 0; have hfz27_1 := fZ BK185 1; obtain ⟨Ao28, co28, eo28⟩ := Kd.R_slice HO193.out; subst eo28; have p194 : 0 ≤ ((l0_1.length : Int) : Int) := dT; have q194 : (l0_1.length : Int) < (t191.length : Int) := dT; obtain ⟨ad194, e194, hx194_0⟩ := Kd.at_int (Kd.R_reads' HO193.out).2.2 (l0_1.length : Int) p194 q194; cases e194; (try simp only [Go.IntWalk.toNatUp] at hx194_0); replace p194 := eq_true p194; replace q194 := eq_true q194))
          repeat (go_quiet (first | (go_at_call 19; (with_reducible refine (spec_l6Used.calls k2 _ _ l0_0 _ _ l0_1 t191 _ ?side1 ?side2 ?side3 ?side4 A21.out).mono ?_); (case side1 => exact cS HR0_0 HB); (case side2 => exact HC0_0.out); (case side3 => exact cS HR0_1 HB); (case side4 => exact HC0_1.out); rintro e w26 ⟨v192, rfl, ho0, hb⟩; have n_ := aI (lR HB ho0) (aI (kB BK185 hb) (sB HB hb)); clear BK185 HB; obtain ⟨HO193, BK185, HB⟩ := n_; (try clear hb ho0); have hcz27_0 := cZ0 BK185; have hcz27_1 := cZ1 BK185; have hfz27_0 := fZ BK185 0; have hfz27_1 := fZ BK185 1; obtain ⟨Ao28, co28, eo28⟩ := Kd.R_slice HO193.out; subst eo28; have p194 : 0 ≤ ((l0_1.length : Int) : Int) := dT; have q194 : (l0_1.length : Int) < (t191.length : Int) := dT; obtain ⟨ad194, e194, hx194_0⟩ := Kd.at_int (Kd.R_reads' HO193.out).2.2 (l0_1.length : Int) p194 q194; cases e194; (try simp only [Go.IntWalk.toNatUp] at hx194_0); replace p194 := eq_true p194; replace q194 := eq_true q194)); try go_wp2_with (first | (go_at_call 19; (with_reducible refine (spec_l6Used.calls k2 _ _ l0_0 _ _ l0_1 t191 _ ?side1 ?side2 ?side3 ?side4 A21.out).mono ?_); (case side1 => exact cS HR0_0 HB); (case side2 => exact HC0_0.out); (case side3 => exact cS HR0_1 HB); (case side4 => exact HC0_1.out); rintro e w26 ⟨v192, rfl, ho0, hb⟩; have n_ := aI (lR HB ho0) (aI (kB BK185 hb) (sB HB hb)); clear BK185 HB; obtain ⟨HO193, BK185, HB⟩ := n_; (try clear hb ho0); have hcz27_0 := cZ0 BK185; have hcz27_1 := cZ1 BK185; have hfz27_0 := fZ BK185 0; have hfz27_1 := fZ BK185 1; obtain ⟨Ao28, co28, eo28⟩ := Kd.R_slice HO193.out; subst eo28; have p194 : 0 ≤ ((l0_1.length : Int) : Int) := dT; have q194 : (l0_1.length : Int) < (t191.length : Int) := dT; obtain ⟨ad194, e194, hx194_0⟩ := Kd.at_int (Kd.R_reads' HO193.out).2.2 (l0_1.length : Int) p194 q194; cases e194; (try simp only [Go.IntWalk.toNatUp] at hx194_0); replace p194 := eq_true p194; replace q194 := eq_true q194)))
          go_ret
          exact ⟨eW, bB⟩
         ·rw [if_neg c24] at H
          have c24b0 : decide (0 < (rd t191 (l0_1.length : Int))) = false := decide_eq_false c24
          clear c24
          have H' := aM H
          clear H
          have hcz29_0 := cZ0 BK185
          have hcz29_1 := cZ1 BK185
          have hfz29_0 := fZ BK185 0
          have hfz29_1 := fZ BK185 1
          go_wp2_with (first | (go_at_call 19; (with_reducible refine (spec_l6Used.calls k2 _ _ l0_0 _ _ l0_1 t191 _ ?side1 ?side2 ?side3 ?side4 A21.out).mono ?_); (case side1 => exact cS HR0_0 HB); (case side2 => exact HC0_0.out); (case side3 => exact cS HR0_1 HB); (case side4 => exact HC0_1.out); rintro e w30 ⟨v192, rfl, ho0, hb⟩; have n_ := aI (lR HB ho0) (aI (kB BK185 hb) (sB HB hb)); clear BK185 HB; obtain ⟨HO193, BK185, HB⟩ := n_; (try clear hb ho0); have hcz31_0 := cZ0 BK185; have hcz31_1 := cZ1 BK185; have hfz31_0 := fZ BK185 0; have hfz31_1 := fZ BK185 1; obtain ⟨Ao32, co32, eo32⟩ := Kd.R_slice HO193.out; subst eo32; have p194 : 0 ≤ ((l0_1.length : Int) : Int) := dT; have q194 : (l0_1.length : Int) < (t191.length : Int) := dT; obtain ⟨ad194, e194, hx194_0⟩ := Kd.at_int (Kd.R_reads' HO193.out).2.2 (l0_1.length : Int) p194 q194; cases e194; (try simp only [Go.IntWalk.toNatUp] at hx194_0); replace p194 := eq_true p194; replace q194 := eq_true q194))
          repeat (go_quiet (first | (go_at_call 19; (with_reducible refine (spec_l6Used.calls k2 _ _ l0_0 _ _ l0_1 t191 _ ?side1 ?side2 ?side3 ?side4 A21.out).mono ?_); (case side1 => exact cS HR0_0 HB); (case side2 => exact HC0_0.out); (case side3 => exact cS HR0_1 HB); (case side4 => exact HC0_1.out); rintro e w30 ⟨v192, rfl, ho0, hb⟩; have n_ := aI (lR HB ho0) (aI (kB BK185 hb) (sB HB hb)); clear BK185 HB; obtain ⟨HO193, BK185, HB⟩ := n_; (try clear hb ho0); have hcz31_0 := cZ0 BK185; have hcz31_1 := cZ1 BK185; have hfz31_0 := fZ BK185 0; have hfz31_1 := fZ BK185 1; obtain ⟨Ao32, co32, eo32⟩ := Kd.R_slice HO193.out; subst eo32; have p194 : 0 ≤ ((l0_1.length : Int) : Int) := dT; have q194 : (l0_1.length : Int) < (t191.length : Int) := dT; obtain ⟨ad194, e194, hx194_0⟩ := Kd.at_int (Kd.R_reads' HO193.out).2.2 (l0_1.length : Int) p194 q194; cases e194; (try simp only [Go.IntWalk.toNatUp] at hx194_0); replace p194 := eq_true p194; replace q194 := eq_true q194)); try go_wp2_with (first | (go_at_call 19; (with_reducible refine (spec_l6Used.calls k2 _ _ l0_0 _ _ l0_1 t191 _ ?side1 ?side2 ?side3 ?side4 A21.out).mono ?_); (case side1 => exact cS HR0_0 HB); (case side2 => exact HC0_0.out); (case side3 => exact cS HR0_1 HB); (case side4 => exact HC0_1.out); rintro e w30 ⟨v192, rfl, ho0, hb⟩; have n_ := aI (lR HB ho0) (aI (kB BK185 hb) (sB HB hb)); clear BK185 HB; obtain ⟨HO193, BK185, HB⟩ := n_; (try clear hb ho0); have hcz31_0 := cZ0 BK185; have hcz31_1 := cZ1 BK185; have hfz31_0 := fZ BK185 0; have hfz31_1 := fZ BK185 1; obtain ⟨Ao32, co32, eo32⟩ := Kd.R_slice HO193.out; subst eo32; have p194 : 0 ≤ ((l0_1.length : Int) : Int) := dT; have q194 : (l0_1.length : Int) < (t191.length : Int) := dT; obtain ⟨ad194, e194, hx194_0⟩ := Kd.at_int (Kd.R_reads' HO193.out).2.2 (l0_1.length : Int) p194 q194; cases e194; (try simp only [Go.IntWalk.toNatUp] at hx194_0); replace p194 := eq_true p194; replace q194 := eq_true q194)))
          go_loopg [5] k2 (fun kq v5 w' => ∃ (x5_3 : Int), v5 = .int .i64 x5_3 ∧ Aside0 (spec_ShapeOk.l1 kq t191 x5_3 l0_0 l0_1 = some r) ∧ Aside0 (kq ≤ k2) ∧ Aside0 (Kd.R (Kd.int .i64) 3 w' w.heap.size (fun _ => True) (.slice (some ad194) t191.length co32) t191) ∧ Aside0 (w'.heap[gb185]? = some (.cells #[(.slice A0_0 l0_0.length c0_0), (.slice A0_1 l0_1.length c0_1)] 30 (0, 0))) ∧ Aside0 (Below w.heap.size w w'))
          case atStart => exact ⟨(0), (by first | rfl | (simp; done) | (simp [*]; done) | (simp; exact (by intro l_; cases l_ <;> rfl : ∀ l_ : List UInt8, l_.isEmpty = !(l_ != [])) _)), H', ⟨Nat.le_refl _⟩, ⟨rP HO193.out⟩, ⟨kP BK185⟩, ⟨bB⟩⟩
          case round =>
           clear H'
           try clear c1
           try clear p1
           try clear q1
           try clear hx1
           try clear qi1
           try clear c2
           try clear p2
           try clear c5
           try clear p6
           try clear c7
           try clear c8
           try clear c8b0
           try clear c8b1
           try clear c8b2
           try clear c12
           try clear c13
           try clear c13b0
           try clear c14
           try clear c14b0
           try clear c16
           try clear c18
           try clear p18
           try clear q18
           try clear hx18
           try clear qi18
           try clear p19
           try clear q19
           try clear hx19
           try clear c22
           try clear c22b0
           try clear c22b1
           try clear c23
           try clear c23b0
           try clear c23b1
           try clear c24
           try clear c24b0
           try clear hcz10_0
           try clear hcz10_1
           try clear hcz11_0
           try clear hcz11_1
           try clear hcz17_0
           try clear hcz17_1
           try clear hcz19_0
           try clear hcz19_1
           try clear hcz25_0
           try clear hcz25_1
           try clear hcz27_0
           try clear hcz27_1
           try clear hcz29_0
           try clear hcz29_1
           try clear hcz31_0
           try clear hcz31_1
           try clear hcz9_0
           try clear hcz9_1
           try clear hfz10_0
           try clear hfz10_1
           try clear hfz11_0
           try clear hfz11_1
           try clear hfz17_0
           try clear hfz17_1
           try clear hfz19_0
           try clear hfz19_1
           try clear hfz25_0
           try clear hfz25_1
           try clear hfz27_0
           try clear hfz27_1
           try clear hfz29_0
           try clear hfz29_1
           try clear hfz31_0
           try clear hfz31_1
           try clear hfz9_0
           try clear hfz9_1
           try clear hx188_0
           try clear hx188_1
           try clear hx188_2
           try clear hx188_3
           try clear hx188_4
           try clear hx189_0
           try clear hx189_1
           try clear hx189_2
           try clear hx189_3
           try clear hx189_4
           try clear hx194_0
           try clear p1
           try clear p188
           try clear p189
           try clear p194
           try clear p2
           try clear q1
           try clear q188
           try clear q189
           try clear q194
           obtain ⟨x5_3, rfl, HA, HK3, HO_4, BK185, HB⟩ := hrel
           cases gk with
           | zero => exact absurd HA.out (by simp [spec_ShapeOk.l1])
           | succ k3 =>
            have H := HA.out
            clear HA
            simp only [spec_ShapeOk.l1] at H
            by_cases c33 : x5_3 < (l0_1.length : Int)
            ·rw [if_pos c33] at H
             have c33b0 : decide (x5_3 < (l0_1.length : Int)) = true := decide_eq_true c33
             clear c33
             by_cases c34 : 0 ≤ x5_3
             ·rw [if_pos c34] at H
              have c34b0 : decide (0 ≤ x5_3) = true := decide_eq_true c34
              clear c34
              by_cases c35 : x5_3 < (t191.length : Int)
              ·rw [if_pos c35] at H
               have c35b0 : decide (x5_3 < (t191.length : Int)) = true := decide_eq_true c35
               clear c35
               by_cases c36 : (rd t191 x5_3) > 1
               ·rw [if_pos c36] at H
                have c36b0 : decide (1 < (rd t191 x5_3)) = true := decide_eq_true c36
                clear c36
                obtain rfl := Option.some.inj H
                have hcz37_0 := cZ0 BK185
                have hcz37_1 := cZ1 BK185
                have hfz37_0 := fZ BK185 0
                have hfz37_1 := fZ BK185 1
                have p195 : 0 ≤ (x5_3 : Int) := dT
                have q195 : x5_3 < (t191.length : Int) := dT
                obtain ⟨ad195, e195, hx195_0⟩ := Kd.at_int (Kd.R_reads' HO_4.out).2.2 x5_3 p195 q195
                obtain rfl : ad194 = ad195 := (by injection e195)
                replace p195 := eq_true p195
                replace q195 := eq_true q195
                go_wp2
                repeat (go_quiet (fail); try go_wp2)
                go_ret
                exact ⟨eW, bB⟩
               ·rw [if_neg c36] at H
                have c36b0 : decide (1 < (rd t191 x5_3)) = false := decide_eq_false c36
                clear c36
                by_cases c38 : (rd t191 x5_3) = 0
                ·rw [if_pos c38] at H
                 have c38b0 : ((rd t191 x5_3) == 0) = true := beq_iff_eq.mpr c38
                 have c38b1 : ((rd t191 x5_3) != 0) = false := bne_eq_false_iff_eq.mpr c38
                 clear c38
                 by_cases c39 : (rdOf ByteArray.empty l0_1 x5_3).toList = ([] : List UInt8)
                 ·rw [if_pos c39] at H
                  have c39b0 : ((rdOf ByteArray.empty l0_1 x5_3).toList == ([] : List UInt8)) = true := beq_iff_eq.mpr c39
                  have c39b1 : ((rdOf ByteArray.empty l0_1 x5_3).toList != ([] : List UInt8)) = false := bne_eq_false_iff_eq.mpr c39
                  clear c39
                  by_cases c40 : ((rdOf ByteArray.empty l0_1 x5_3).size : Int) > 16
                  ·rw [if_pos c40] at H
                   have c40b0 : decide (16 < ((rdOf ByteArray.empty l0_1 x5_3).size : Int)) = true := decide_eq_true c40
                   have c40b1 : decide (16 < (rdOf ByteArray.empty l0_1 x5_3).size) = true := decide_eq_true (by omega)
                   clear c40
                   obtain rfl := Option.some.inj H
                   have hcz41_0 := cZ0 BK185
                   have hcz41_1 := cZ1 BK185
                   have hfz41_0 := fZ BK185 0
                   have hfz41_1 := fZ BK185 1
                   have p195 : 0 ≤ (x5_3 : Int) := dT
                   have q195 : x5_3 < (t191.length : Int) := dT
                   obtain ⟨ad195, e195, hx195_0⟩ := Kd.at_int (Kd.R_reads' HO_4.out).2.2 x5_3 p195 q195
                   obtain rfl : ad194 = ad195 := (by injection e195)
                   replace p195 := eq_true p195
                   replace q195 := eq_true q195
                   have p196 : 0 ≤ (x5_3 : Int) := dT
                   have q196 : x5_3 < (t191.length : Int) := dT
                   obtain ⟨ad196, e196, hx196_0⟩ := Kd.at_int (Kd.R_reads' HO_4.out).2.2 x5_3 p196 q196
                   obtain rfl : ad194 = ad196 := (by injection e196)
                   replace p196 := eq_true p196
                   replace q196 := eq_true q196
                   have p197 : 0 ≤ (x5_3 : Int) := dT
                   have q197 : x5_3 < (l0_1.length : Int) := dT
                   obtain ⟨ad197, e197, hx197_0⟩ := Kd.at_string HR0_1.out x5_3 p197 q197
                   cases e197
                   replace hx197_0 := (HB.out.cell (World.block_lt_of_cell? w _ hx197_0)).trans hx197_0
                   replace p197 := eq_true p197
                   replace q197 := eq_true q197
                   have p198 : 0 ≤ (x5_3 : Int) := dT
                   have q198 : x5_3 < (l0_1.length : Int) := dT
                   obtain ⟨ad198, e198, hx198_0⟩ := Kd.at_string HR0_1.out x5_3 p198 q198
                   obtain rfl : ad197 = ad198 := (by injection e198)
                   replace hx198_0 := (HB.out.cell (World.block_lt_of_cell? w _ hx198_0)).trans hx198_0
                   replace p198 := eq_true p198
                   replace q198 := eq_true q198
                   go_wp2
                   repeat (go_quiet (fail); try go_wp2)
                   go_ret
                   exact ⟨eW, bB⟩
                  ·rw [if_neg c40] at H
                   have c40b0 : decide (16 < ((rdOf ByteArray.empty l0_1 x5_3).size : Int)) = false := decide_eq_false c40
                   have c40b1 : decide (16 < (rdOf ByteArray.empty l0_1 x5_3).size) = false := decide_eq_false (by omega)
                   clear c40
                   have H' := aM H
                   clear H
                   have hcz42_0 := cZ0 BK185
                   have hcz42_1 := cZ1 BK185
                   have hfz42_0 := fZ BK185 0
                   have hfz42_1 := fZ BK185 1
                   have p195 : 0 ≤ (x5_3 : Int) := dT
                   have q195 : x5_3 < (t191.length : Int) := dT
                   obtain ⟨ad195, e195, hx195_0⟩ := Kd.at_int (Kd.R_reads' HO_4.out).2.2 x5_3 p195 q195
                   obtain rfl : ad194 = ad195 := (by injection e195)
                   replace p195 := eq_true p195
                   replace q195 := eq_true q195
                   have p196 : 0 ≤ (x5_3 : Int) := dT
                   have q196 : x5_3 < (t191.length : Int) := dT
                   obtain ⟨ad196, e196, hx196_0⟩ := Kd.at_int (Kd.R_reads' HO_4.out).2.2 x5_3 p196 q196
                   obtain rfl : ad194 = ad196 := (by injection e196)
                   replace p196 := eq_true p196
                   replace q196 := eq_true q196
                   have p197 : 0 ≤ (x5_3 : Int) := dT
                   have q197 : x5_3 < (l0_1.length : Int) := dT
                   obtain ⟨ad197, e197, hx197_0⟩ := Kd.at_string HR0_1.out x5_3 p197 q197
                   cases e197
                   replace hx197_0 := (HB.out.cell (World.block_lt_of_cell? w _ hx197_0)).trans hx197_0
                   replace p197 := eq_true p197
                   replace q197 := eq_true q197
                   have p198 : 0 ≤ (x5_3 : Int) := dT
                   have q198 : x5_3 < (l0_1.length : Int) := dT
                   obtain ⟨ad198, e198, hx198_0⟩ := Kd.at_string HR0_1.out x5_3 p198 q198
                   obtain rfl : ad197 = ad198 := (by injection e198)
                   replace hx198_0 := (HB.out.cell (World.block_lt_of_cell? w _ hx198_0)).trans hx198_0
                   replace p198 := eq_true p198
                   replace q198 := eq_true q198
                   go_wp2
                   repeat (go_quiet (fail); try go_wp2)
                   go_roundg k3
                   case measure => have := HJ1.out; have := HK2.out; have := HK3.out; omega
                   case rel => exact ⟨(wrap64 (x5_3 + 1)), (by first | rfl | (simp; done) | (simp [*]; done) | (simp; exact (by intro l_; cases l_ <;> rfl : ∀ l_ : List UInt8, l_.isEmpty = !(l_ != [])) _)), H', ⟨by have := HJ1.out; have := HK2.out; have := HK3.out; omega⟩, ⟨rP HO_4.out⟩, ⟨kP BK185⟩, ⟨bB⟩⟩
                 ·rw [if_neg c39] at H
                  have c39b0 : ((rdOf ByteArray.empty l0_1 x5_3).toList == ([] : List UInt8)) = false := beq_eq_false_iff_ne.mpr c39
                  have c39b1 : ((rdOf ByteArray.empty l0_1 x5_3).toList != ([] : List UInt8)) = true := bne_iff_ne.mpr c39
                  obtain rfl := Option.some.inj H
                  have hcz43_0 := cZ0 BK185
                  have hcz43_1 := cZ1 BK185
                  have hfz43_0 := fZ BK185 0
                  have hfz43_1 := fZ BK185 1
                  have p195 : 0 ≤ (x5_3 : Int) := dT
                  have q195 : x5_3 < (t191.length : Int) := dT
                  obtain ⟨ad195, e195, hx195_0⟩ := Kd.at_int (Kd.R_reads' HO_4.out).2.2 x5_3 p195 q195
                  obtain rfl : ad194 = ad195 := (by injection e195)
                  replace p195 := eq_true p195
                  replace q195 := eq_true q195
                  have p196 : 0 ≤ (x5_3 : Int) := dT
                  have q196 : x5_3 < (t191.length : Int) := dT
                  obtain ⟨ad196, e196, hx196_0⟩ := Kd.at_int (Kd.R_reads' HO_4.out).2.2 x5_3 p196 q196
                  obtain rfl : ad194 = ad196 := (by injection e196)
                  replace p196 := eq_true p196
                  replace q196 := eq_true q196
                  have p197 : 0 ≤ (x5_3 : Int) := dT
                  have q197 : x5_3 < (l0_1.length : Int) := dT
                  obtain ⟨ad197, e197, hx197_0⟩ := Kd.at_string HR0_1.out x5_3 p197 q197
                  cases e197
                  replace hx197_0 := (HB.out.cell (World.block_lt_of_cell? w _ hx197_0)).trans hx197_0
                  replace p197 := eq_true p197
                  replace q197 := eq_true q197
                  go_wp2
                  repeat (go_quiet (fail); try go_wp2)
                  go_ret
                  exact ⟨eW, bB⟩
                ·rw [if_neg c38] at H
                 have c38b0 : ((rd t191 x5_3) == 0) = false := beq_eq_false_iff_ne.mpr c38
                 have c38b1 : ((rd t191 x5_3) != 0) = true := bne_iff_ne.mpr c38
                 by_cases c44 : ((rdOf ByteArray.empty l0_1 x5_3).size : Int) > 16
                 ·rw [if_pos c44] at H
                  have c44b0 : decide (16 < ((rdOf ByteArray.empty l0_1 x5_3).size : Int)) = true := decide_eq_true c44
                  have c44b1 : decide (16 < (rdOf ByteArray.empty l0_1 x5_3).size) = true := decide_eq_true (by omega)
                  clear c44
                  obtain rfl := Option.some.inj H
                  have hcz45_0 := cZ0 BK185
                  have hcz45_1 := cZ1 BK185
                  have hfz45_0 := fZ BK185 0
                  have hfz45_1 := fZ BK185 1
                  have p195 : 0 ≤ (x5_3 : Int) := dT
                  have q195 : x5_3 < (t191.length : Int) := dT
                  obtain ⟨ad195, e195, hx195_0⟩ := Kd.at_int (Kd.R_reads' HO_4.out).2.2 x5_3 p195 q195
                  obtain rfl : ad194 = ad195 := (by injection e195)
                  replace p195 := eq_true p195
                  replace q195 := eq_true q195
                  have p196 : 0 ≤ (x5_3 : Int) := dT
                  have q196 : x5_3 < (t191.length : Int) := dT
                  obtain ⟨ad196, e196, hx196_0⟩ := Kd.at_int (Kd.R_reads' HO_4.out).2.2 x5_3 p196 q196
                  obtain rfl : ad194 = ad196 := (by injection e196)
                  replace p196 := eq_true p196
                  replace q196 := eq_true q196
                  have p199 : 0 ≤ (x5_3 : Int) := dT
                  have q199 : x5_3 < (l0_1.length : Int) := dT
                  obtain ⟨ad199, e199, hx199_0⟩ := Kd.at_string HR0_1.out x5_3 p199 q199
                  cases e199
                  replace hx199_0 := (HB.out.cell (World.block_lt_of_cell? w _ hx199_0)).trans hx199_0
                  replace p199 := eq_true p199
                  replace q199 := eq_true q199
                  go_wp2
                  repeat (go_quiet (fail); try go_wp2)
                  go_ret
                  exact ⟨eW, bB⟩
                 ·rw [if_neg c44] at H
                  have c44b0 : decide (16 < ((rdOf ByteArray.empty l0_1 x5_3).size : Int)) = false := decide_eq_false c44
                  have c44b1 : decide (16 < (rdOf ByteArray.empty l0_1 x5_3).size) = false := decide_eq_false (by omega)
                  clear c44
                  have H' := aM H
                  clear H
                  have hcz46_0 := cZ0 BK185
                  have hcz46_1 := cZ1 BK185
                  have hfz46_0 := fZ BK185 0
                  have hfz46_1 := fZ BK185 1
                  have p195 : 0 ≤ (x5_3 : Int) := dT
                  have q195 : x5_3 < (t191.length : Int) := dT
                  obtain ⟨ad195, e195, hx195_0⟩ := Kd.at_int (Kd.R_reads' HO_4.out).2.2 x5_3 p195 q195
                  obtain rfl : ad194 = ad195 := (by injection e195)
                  replace p195 := eq_true p195
                  replace q195 := eq_true q195
                  have p196 : 0 ≤ (x5_3 : Int) := dT
                  have q196 : x5_3 < (t191.length : Int) := dT
                  obtain ⟨ad196, e196, hx196_0⟩ := Kd.at_int (Kd.R_reads' HO_4.out).2.2 x5_3 p196 q196
                  obtain rfl : ad194 = ad196 := (by injection e196)
                  replace p196 := eq_true p196
                  replace q196 := eq_true q196
                  have p199 : 0 ≤ (x5_3 : Int) := dT
                  have q199 : x5_3 < (l0_1.length : Int) := dT
                  obtain ⟨ad199, e199, hx199_0⟩ := Kd.at_string HR0_1.out x5_3 p199 q199
                  cases e199
                  replace hx199_0 := (HB.out.cell (World.block_lt_of_cell? w _ hx199_0)).trans hx199_0
                  replace p199 := eq_true p199
                  replace q199 := eq_true q199
                  go_wp2
                  repeat (go_quiet (fail); try go_wp2)
                  go_roundg k3
                  case measure => have := HJ1.out; have := HK2.out; have := HK3.out; omega
                  case rel => exact ⟨(wrap64 (x5_3 + 1)), (by first | rfl | (simp; done) | (simp [*]; done) | (simp; exact (by intro l_; cases l_ <;> rfl : ∀ l_ : List UInt8, l_.isEmpty = !(l_ != [])) _)), H', ⟨by have := HJ1.out; have := HK2.out; have := HK3.out; omega⟩, ⟨rP HO_4.out⟩, ⟨kP BK185⟩, ⟨bB⟩⟩
              ·rw [if_neg c35] at H
               exact absurd H (by simp)
             ·rw [if_neg c34] at H
              exact absurd H (by simp)
            ·rw [if_neg c33] at H
             have c33b0 : decide (x5_3 < (l0_1.length : Int)) = false := decide_eq_false c33
             clear c33
             have H' := aM H
             clear H
             have hcz47_0 := cZ0 BK185
             have hcz47_1 := cZ1 BK185
             have hfz47_0 := fZ BK185 0
             have hfz47_1 := fZ BK185 1
             go_wp2
             repeat (go_quiet (fail); try go_wp2)
             go_loopg [6] k3 (fun kq v6 w' => ∃ (x6_4 : Int), v6 = .int .i64 x6_4 ∧ Aside0 (spec_ShapeOk.l2 kq x6_4 l0_0 l0_1 = some r) ∧ Aside0 (kq ≤ k3) ∧ Aside0 (w'.heap[gb185]? = some (.cells #[(.slice A0_0 l0_0.length c0_0), (.slice A0_1 l0_1.length c0_1)] 30 (0, 0))) ∧ Aside0 (Below w.heap.size w w'))
             case atStart => exact ⟨(0), (by first | rfl | (simp; done) | (simp [*]; done) | (simp; exact (by intro l_; cases l_ <;> rfl : ∀ l_ : List UInt8, l_.isEmpty = !(l_ != [])) _)), H', ⟨Nat.le_refl _⟩, ⟨kP BK185⟩, ⟨bB⟩⟩
             case round =>
              clear H'
              try clear c1
              try clear p1
              try clear q1
              try clear hx1
              try clear qi1
              try clear c2
              try clear p2
              try clear c3
              try clear c4
              try clear c5
              try clear p6
              try clear c7
              try clear c8
              try clear c8b0
              try clear c8b1
              try clear c8b2
              try clear c12
              try clear c13
              try clear c13b0
              try clear c14
              try clear c14b0
              try clear c16
              try clear c18
              try clear p18
              try clear q18
              try clear hx18
              try clear qi18
              try clear p19
              try clear q19
              try clear hx19
              try clear c22
              try clear c22b0
              try clear c22b1
              try clear c23
              try clear c23b0
              try clear c23b1
              try clear c24
              try clear c24b0
              try clear c33
              try clear c33b0
              try clear c34
              try clear c34b0
              try clear c35
              try clear c35b0
              try clear c36
              try clear c36b0
              try clear c38
              try clear c38b0
              try clear c38b1
              try clear c39
              try clear c39b0
              try clear c39b1
              try clear c40
              try clear c40b0
              try clear c40b1
              try clear c44
              try clear c44b0
              try clear c44b1
              try clear hcz10_0
              try clear hcz10_1
              try clear hcz11_0
              try clear hcz11_1
              try clear hcz17_0
              try clear hcz17_1
              try clear hcz19_0
              try clear hcz19_1
              try clear hcz25_0
              try clear hcz25_1
              try clear hcz27_0
              try clear hcz27_1
              try clear hcz29_0
              try clear hcz29_1
              try clear hcz31_0
              try clear hcz31_1
              try clear hcz37_0
              try clear hcz37_1
              try clear hcz41_0
              try clear hcz41_1
              try clear hcz42_0
              try clear hcz42_1
              try clear hcz43_0
              try clear hcz43_1
              try clear hcz45_0
              try clear hcz45_1
              try clear hcz46_0
              try clear hcz46_1
              try clear hcz47_0
              try clear hcz47_1
              try clear hcz9_0
              try clear hcz9_1
              try clear hfz10_0
              try clear hfz10_1
              try clear hfz11_0
              try clear hfz11_1
              try clear hfz17_0
              try clear hfz17_1
              try clear hfz19_0
              try clear hfz19_1
              try clear hfz25_0
              try clear hfz25_1
              try clear hfz27_0
              try clear hfz27_1
              try clear hfz29_0
              try clear hfz29_1
              try clear hfz31_0
              try clear hfz31_1
              try clear hfz37_0
              try clear hfz37_1
              try clear hfz41_0
              try clear hfz41_1
              try clear hfz42_0
              try clear hfz42_1
              try clear hfz43_0
              try clear hfz43_1
              try clear hfz45_0
              try clear hfz45_1
              try clear hfz46_0
              try clear hfz46_1
              try clear hfz47_0
              try clear hfz47_1
              try clear hfz9_0
              try clear hfz9_1
              try clear hx188_0
              try clear hx188_1
              try clear hx188_2
              try clear hx188_3
              try clear hx188_4
              try clear hx189_0
              try clear hx189_1
              try clear hx189_2
              try clear hx189_3
              try clear hx189_4
              try clear hx194_0
              try clear hx195_0
              try clear hx196_0
              try clear hx197_0
              try clear hx198_0
              try clear hx199_0
              try clear p1
              try clear p18
              try clear p188
              try clear p189
              try clear p19
              try clear p194
              try clear p195
              try clear p196
              try clear p197
              try clear p198
              try clear p199
              try clear p2
              try clear p6
              try clear q1
              try clear q18
              try clear q188
              try clear q189
              try clear q19
              try clear q194
              try clear q195
              try clear q196
              try clear q197
              try clear q198
              try clear q199
              obtain ⟨x6_4, rfl, HA, HK4, BK185, HB⟩ := hrel
              cases gk with
              | zero => exact absurd HA.out (by simp [spec_ShapeOk.l2])
              | succ k4 =>
               have H := HA.out
               clear HA
               simp only [spec_ShapeOk.l2] at H
               by_cases c48 : x6_4 < (l0_0.length : Int)
               ·rw [if_pos c48] at H
                have c48b0 : decide (x6_4 < (l0_0.length : Int)) = true := decide_eq_true c48
                clear c48
                by_cases c49 : 0 ≤ x6_4
                ·rw [if_pos c49] at H
                 have c49b0 : decide (0 ≤ x6_4) = true := decide_eq_true c49
                 clear c49
                 have H' := aM H
                 clear H
                 have hcz50_0 := cZ0 BK185
                 have hcz50_1 := cZ1 BK185
                 have hfz50_0 := fZ BK185 0
                 have hfz50_1 := fZ BK185 1
                 have p200 : 0 ≤ (x6_4 : Int) := dT
                 have q200 : x6_4 < (l0_0.length : Int) := dT
                 obtain ⟨ad200, A200_4, c200_4, e200, hx200_0, hx200_1, hx200_2, hx200_3, hx200_4, hl200_4, hi200_4⟩ := at_T40 HR0_0.out x6_4 p200 q200
                 cases e200
                 replace hx200_0 := (HB.out.cell (World.block_lt_of_cell? w _ hx200_0)).trans hx200_0
                 replace hx200_1 := (HB.out.cell (World.block_lt_of_cell? w _ hx200_1)).trans hx200_1
                 replace hx200_2 := (HB.out.cell (World.block_lt_of_cell? w _ hx200_2)).trans hx200_2
                 replace hx200_3 := (HB.out.cell (World.block_lt_of_cell? w _ hx200_3)).trans hx200_3
                 replace hx200_4 := (HB.out.cell (World.block_lt_of_cell? w _ hx200_4)).trans hx200_4
                 have HR200_4 := aM hi200_4
                 have HC200_4 := aM hl200_4
                 clear hi200_4 hl200_4
                 replace p200 := eq_true p200
                 replace q200 := eq_true q200
                 go_wp2_with (first | ((with_reducible refine gate_dst (N := 7) rfl ?_); (try (refine gate_guard (by rfl) ?_; dsimp only)); refine box_event ?hg (N := 7) ?hd (cs := #[.int .i64 0, .int .i64 0, .int .i64 0, .int .i64 0, .slice none 0 0]) (t := 40) ?hr ?_; (case hd => rfl); (case hg => rfl); (case hr => first | (go_simp; done) | (go_simp; rfl)); intro gb201 hg w51 hbox hb; have n_ := aI (kB BK185 hb) (aI (sB HB hb) (aI (aM hbox) (aI (gE HB hg) (aI (gE HB hg) (aI (nL BK185 hg) (nG BK185 hg)))))); clear BK185 HB; obtain ⟨BK185, HB, BK201, GW201, GE201, NB185_201, NB201_185⟩ := n_; (try clear hb hbox hg); have hnb52 := NB201_185.out; have hnc52 := NB185_201.out; have hcz53_0 := cZ0 BK201; have hcz53_1 := cZ1 BK201; have hcz53_2 : w51.cell? ⟨gb201, 2, none⟩ = some (.int .i64 0) := (blk_cell BK201.out 2).trans rfl; have hcz53_3 : w51.cell? ⟨gb201, 3, none⟩ = some (.int .i64 0) := (blk_cell BK201.out 3).trans rfl; have hcz53_4 : w51.cell? ⟨gb201, 4, none⟩ = some (.slice none 0 0) := (blk_cell BK201.out 4).trans rfl; have hfz53_0 := fZ BK201 0; have hfz53_1 := fZ BK201 1; have hfz53_2 := fZ BK201 2; have hfz53_3 := fZ BK201 3; have hfz53_4 := fZ BK201 4))
                 repeat (go_quiet (first | ((with_reducible refine gate_dst (N := 7) rfl ?_); (try (refine gate_guard (by rfl) ?_; dsimp only)); refine box_event ?hg (N := 7) ?hd (cs := #[.int .i64 0, .int .i64 0, .int .i64 0, .int .i64 0, .slice none 0 0]) (t := 40) ?hr ?_; (case hd => rfl); (case hg => rfl); (case hr => first | (go_simp; done) | (go_simp; rfl)); intro gb201 hg w51 hbox hb; have n_ := aI (kB BK185 hb) (aI (sB HB hb) (aI (aM hbox) (aI (gE HB hg) (aI (gE HB hg) (aI (nL BK185 hg) (nG BK185 hg)))))); clear BK185 HB; obtain ⟨BK185, HB, BK201, GW201, GE201, NB185_201, NB201_185⟩ := n_; (try clear hb hbox hg); have hnb52 := NB201_185.out; have hnc52 := NB185_201.out; have hcz53_0 := cZ0 BK201; have hcz53_1 := cZ1 BK201; have hcz53_2 : w51.cell? ⟨gb201, 2, none⟩ = some (.int .i64 0) := (blk_cell BK201.out 2).trans rfl; have hcz53_3 : w51.cell? ⟨gb201, 3, none⟩ = some (.int .i64 0) := (blk_cell BK201.out 3).trans rfl; have hcz53_4 : w51.cell? ⟨gb201, 4, none⟩ = some (.slice none 0 0) := (blk_cell BK201.out 4).trans rfl; have hfz53_0 := fZ BK201 0; have hfz53_1 := fZ BK201 1; have hfz53_2 := fZ BK201 2; have hfz53_3 := fZ BK201 3; have hfz53_4 := fZ BK201 4)); try go_wp2_with (first | ((with_reducible refine gate_dst (N := 7) rfl ?_); (try (refine gate_guard (by rfl) ?_; dsimp only)); refine box_event ?hg (N := 7) ?hd (cs := #[.int .i64 0, .int .i64 0, .int .i64 0, .int .i64 0, .slice none 0 0]) (t := 40) ?hr ?_; (case hd => rfl); (case hg => rfl); (case hr => first | (go_simp; done) | (go_simp; rfl)); intro gb201 hg w51 hbox hb; have n_ := aI (kB BK185 hb) (aI (sB HB hb) (aI (aM hbox) (aI (gE HB hg) (aI (gE HB hg) (aI (nL BK185 hg) (nG BK185 hg)))))); clear BK185 HB; obtain ⟨BK185, HB, BK201, GW201, GE201, NB185_201, NB201_185⟩ := n_; (try clear hb hbox hg); have hnb52 := NB201_185.out; have hnc52 := NB185_201.out; have hcz53_0 := cZ0 BK201; have hcz53_1 := cZ1 BK201; have hcz53_2 : w51.cell? ⟨gb201, 2, none⟩ = some (.int .i64 0) := (blk_cell BK201.out 2).trans rfl; have hcz53_3 : w51.cell? ⟨gb201, 3, none⟩ = some (.int .i64 0) := (blk_cell BK201.out 3).trans rfl; have hcz53_4 : w51.cell? ⟨gb201, 4, none⟩ = some (.slice none 0 0) := (blk_cell BK201.out 4).trans rfl; have hfz53_0 := fZ BK201 0; have hfz53_1 := fZ BK201 1; have hfz53_2 := fZ BK201 2; have hfz53_3 := fZ BK201 3; have hfz53_4 := fZ BK201 4)))
                 go_loopg [8] k4 (fun kq v8 w' => ∃ (x8_5 : Int), v8 = .int .i64 x8_5 ∧ Aside0 (spec_ShapeOk.l3 kq x6_4 x8_5 l0_0 l0_1 ((rd_T40 l0_0 x6_4).f0) ((rd_T40 l0_0 x6_4).f1) ((rd_T40 l0_0 x6_4).f2) ((rd_T40 l0_0 x6_4).f3) ((rd_T40 l0_0 x6_4).f4) = some r) ∧ Aside0 (kq ≤ k4) ∧ Aside0 (w'.heap[gb185]? = some (.cells #[(.slice (some ad200) l0_0.length c0_0), (.slice A0_1 l0_1.length c0_1)] 30 (0, 0))) ∧ Aside0 (w'.heap[gb201]? = some (.cells #[.int .i64 ((rd_T40 l0_0 x6_4).f0), .int .i64 ((rd_T40 l0_0 x6_4).f1), .int .i64 ((rd_T40 l0_0 x6_4).f2), .int .i64 ((rd_T40 l0_0 x6_4).f3), (.slice A200_4 ((rd_T40 l0_0 x6_4).f4).length c200_4)] 40 (0, 0))) ∧ Aside0 (Below w.heap.size w w'))
                 case atStart => exact ⟨(0), (by first | rfl | (simp; done) | (simp [*]; done) | (simp; exact (by intro l_; cases l_ <;> rfl : ∀ l_ : List UInt8, l_.isEmpty = !(l_ != [])) _)), H', ⟨Nat.le_refl _⟩, ⟨kP BK185⟩, ⟨by (with_reducible repeat (first | apply bN | apply bD | apply bA)); refine blk_put (cs := #[.int .i64 ((rd_T40 l0_0 x6_4).f0), .int .i64 ((rd_T40 l0_0 x6_4).f1), .int .i64 ((rd_T40 l0_0 x6_4).f2), .int .i64 ((rd_T40 l0_0 x6_4).f3), .slice none 0 0]) ?_ 4 _ rfl; (with_reducible repeat (first | apply bN | apply bD | apply bA)); refine blk_put (cs := #[.int .i64 ((rd_T40 l0_0 x6_4).f0), .int .i64 ((rd_T40 l0_0 x6_4).f1), .int .i64 ((rd_T40 l0_0 x6_4).f2), .int .i64 0, .slice none 0 0]) ?_ 3 _ rfl; (with_reducible repeat (first | apply bN | apply bD | apply bA)); refine blk_put (cs := #[.int .i64 ((rd_T40 l0_0 x6_4).f0), .int .i64 ((rd_T40 l0_0 x6_4).f1), .int .i64 0, .int .i64 0, .slice none 0 0]) ?_ 2 _ rfl; (with_reducible repeat (first | apply bN | apply bD | apply bA)); refine blk_put (cs := #[.int .i64 ((rd_T40 l0_0 x6_4).f0), .int .i64 0, .int .i64 0, .int .i64 0, .slice none 0 0]) ?_ 1 _ rfl; (with_reducible repeat (first | apply bN | apply bD | apply bA)); refine blk_put (cs := #[.int .i64 0, .int .i64 0, .int .i64 0, .int .i64 0, .slice none 0 0]) ?_ 0 _ rfl; (with_reducible repeat (first | apply bN | apply bD | apply bA)); exact BK201.out⟩, ⟨bB⟩⟩
                 case round =>
                  clear H'
                  try clear c1
                  try clear p1
                  try clear q1
                  try clear hx1
                  try clear qi1
                  try clear c2
                  try clear p2
                  try clear q2
                  try clear hx2
                  try clear c3
                  try clear c4
                  try clear c5
                  try clear p6
                  try clear c7
                  try clear c8
                  try clear c8b0
                  try clear c8b1
                  try clear c8b2
                  try clear c12
                  try clear c13
                  try clear c13b0
                  try clear c14
                  try clear c14b0
                  try clear c16
                  try clear c18
                  try clear p18
                  try clear q18
                  try clear hx18
                  try clear qi18
                  try clear p19
                  try clear q19
                  try clear hx19
                  try clear c20
                  try clear p20
                  try clear q20
                  try clear hx20
                  try clear c22
                  try clear c22b0
                  try clear c22b1
                  try clear c23
                  try clear c23b0
                  try clear c23b1
                  try clear c24
                  try clear c24b0
                  try clear c33
                  try clear c33b0
                  try clear c34
                  try clear c34b0
                  try clear c35
                  try clear c35b0
                  try clear c36
                  try clear c36b0
                  try clear c38
                  try clear c38b0
                  try clear c38b1
                  try clear c39
                  try clear c39b0
                  try clear c39b1
                  try clear c40
                  try clear c40b0
                  try clear c40b1
                  try clear c44
                  try clear c44b0
                  try clear c44b1
                  try clear c48
                  try clear c48b0
                  try clear c49
                  try clear c49b0
                  try clear c52
                  try clear hcz10_0
                  try clear hcz10_1
                  try clear hcz11_0
                  try clear hcz11_1
                  try clear hcz17_0
                  try clear hcz17_1
                  try clear hcz19_0
                  try clear hcz19_1
                  try clear hcz25_0
                  try clear hcz25_1
                  try clear hcz27_0
                  try clear hcz27_1
                  try clear hcz29_0
                  try clear hcz29_1
                  try clear hcz31_0
                  try clear hcz31_1
                  try clear hcz37_0
                  try clear hcz37_1
                  try clear hcz41_0
                  try clear hcz41_1
                  try clear hcz42_0
                  try clear hcz42_1
                  try clear hcz43_0
                  try clear hcz43_1
                  try clear hcz45_0
                  try clear hcz45_1
                  try clear hcz46_0
                  try clear hcz46_1
                  try clear hcz47_0
                  try clear hcz47_1
                  try clear hcz50_0
                  try clear hcz50_1
                  try clear hcz53_0
                  try clear hcz53_1
                  try clear hcz53_2
                  try clear hcz53_3
                  try clear hcz53_4
                  try clear hcz9_0
                  try clear hcz9_1
                  try clear hfz10_0
                  try clear hfz10_1
                  try clear hfz11_0
                  try clear hfz11_1
                  try clear hfz17_0
                  try clear hfz17_1
                  try clear hfz19_0
                  try clear hfz19_1
                  try clear hfz25_0
                  try clear hfz25_1
                  try clear hfz27_0
                  try clear hfz27_1
                  try clear hfz29_0
                  try clear hfz29_1
                  try clear hfz31_0
                  try clear hfz31_1
                  try clear hfz37_0
                  try clear hfz37_1
                  try clear hfz41_0
                  try clear hfz41_1
                  try clear hfz42_0
                  try clear hfz42_1
                  try clear hfz43_0
                  try clear hfz43_1
                  try clear hfz45_0
                  try clear hfz45_1
                  try clear hfz46_0
                  try clear hfz46_1
                  try clear hfz47_0
                  try clear hfz47_1
                  try clear hfz50_0
                  try clear hfz50_1
                  try clear hfz53_0
                  try clear hfz53_1
                  try clear hfz53_2
                  try clear hfz53_3
                  try clear hfz53_4
                  try clear hfz9_0
                  try clear hfz9_1
                  try clear hx188_0
                  try clear hx188_1
                  try clear hx188_2
                  try clear hx188_3
                  try clear hx188_4
                  try clear hx189_0
                  try clear hx189_1
                  try clear hx189_2
                  try clear hx189_3
                  try clear hx189_4
                  try clear hx194_0
                  try clear hx195_0
                  try clear hx196_0
                  try clear hx197_0
                  try clear hx198_0
                  try clear hx199_0
                  try clear hx200_0
                  try clear hx200_1
                  try clear hx200_2
                  try clear hx200_3
                  try clear hx200_4
                  try clear p1
                  try clear p18
                  try clear p188
                  try clear p189
                  try clear p19
                  try clear p194
                  try clear p195
                  try clear p196
                  try clear p197
                  try clear p198
                  try clear p199
                  try clear p2
                  try clear p200
                  try clear p6
                  try clear q1
                  try clear q18
                  try clear q188
                  try clear q189
                  try clear q19
                  try clear q194
                  try clear q195
                  try clear q196
                  try clear q197
                  try clear q198
                  try clear q199
                  try clear q200
                  obtain ⟨x8_5, rfl, HA, HK5, BK185, BK201, HB⟩ := hrel
                  cases gk with
                  | zero => exact absurd HA.out (by simp [spec_ShapeOk.l3])
                  | succ k5 =>
                   have H := HA.out
                   clear HA
                   simp only [spec_ShapeOk.l3] at H
                   by_cases c54 : x8_5 < (((rd_T40 l0_0 x6_4).f4).length : Int)
                   ·rw [if_pos c54] at H
                    have c54b0 : decide (x8_5 < (((rd_T40 l0_0 x6_4).f4).length : Int)) = true := decide_eq_true c54
                    clear c54
                    by_cases c55 : 0 ≤ x8_5
                    ·rw [if_pos c55] at H
                     have c55b0 : decide (0 ≤ x8_5) = true := decide_eq_true c55
                     clear c55
                     by_cases c56 : 0 ≤ (rd ((rd_T40 l0_0 x6_4).f4) x8_5)
                     ·rw [if_pos c56] at H
                      have c56b0 : decide (0 ≤ (rd ((rd_T40 l0_0 x6_4).f4) x8_5)) = true := decide_eq_true c56
                      clear c56
                      by_cases c57 : (rd ((rd_T40 l0_0 x6_4).f4) x8_5) < (l0_1.length : Int)
                      ·rw [if_pos c57] at H
                       have c57b0 : decide ((rd ((rd_T40 l0_0 x6_4).f4) x8_5) < (l0_1.length : Int)) = true := decide_eq_true c57
                       clear c57
                       replace H := Option.bind_eq_some_iff.mp H
                       obtain ⟨t204, A580, H⟩ := H
                       try dsimp only at H
                       have A58 := aM A580
                       clear A580
                       by_cases c59 : ((rdOf ByteArray.empty l0_1 (rd ((rd_T40 l0_0 x6_4).f4) x8_5)).size : Int) = t204
                       ·rw [if_pos c59] at H
                        have c59b0 : (((rdOf ByteArray.empty l0_1 (rd ((rd_T40 l0_0 x6_4).f4) x8_5)).size : Int) == t204) = true := beq_iff_eq.mpr c59
                        have c59b1 : (((rdOf ByteArray.empty l0_1 (rd ((rd_T40 l0_0 x6_4).f4) x8_5)).size : Int) != t204) = false := bne_eq_false_iff_eq.mpr c59
                        clear c59
                        have H' := aM H
                        clear H
                        have hnb60 := NB201_185.out
                        have hnc60 := NB185_201.out
                        have hcz61_0 : wr.cell? ⟨gb201, 0, none⟩ = some (.int .i64 ((rd_T40 l0_0 x6_4).f0)) := (blk_cell BK201.out 0).trans rfl
                        have hcz61_1 : wr.cell? ⟨gb201, 1, none⟩ = some (.int .i64 ((rd_T40 l0_0 x6_4).f1)) := (blk_cell BK201.out 1).trans rfl
                        have hcz61_2 : wr.cell? ⟨gb201, 2, none⟩ = some (.int .i64 ((rd_T40 l0_0 x6_4).f2)) := (blk_cell BK201.out 2).trans rfl
                        have hcz61_3 : wr.cell? ⟨gb201, 3, none⟩ = some (.int .i64 ((rd_T40 l0_0 x6_4).f3)) := (blk_cell BK201.out 3).trans rfl
                        have hcz61_4 : wr.cell? ⟨gb201, 4, none⟩ = some (.slice A200_4 ((rd_T40 l0_0 x6_4).f4).length c200_4) := (blk_cell BK201.out 4).trans rfl
                        have hfz61_0 := fZ BK201 0
                        have hfz61_1 := fZ BK201 1
                        have hfz61_2 := fZ BK201 2
                        have hfz61_3 := fZ BK201 3
                        have hfz61_4 := fZ BK201 4
                        have hcz62_0 := cZ0 BK185
                        have hcz62_1 := cZ1 BK185
                        have hfz62_0 := fZ BK185 0
                        have hfz62_1 := fZ BK185 1
                        have p202 : 0 ≤ (x8_5 : Int) := dT
                        have q202 : x8_5 < (((rd_T40 l0_0 x6_4).f4).length : Int) := dT
                        obtain ⟨ad202, e202, hx202_0⟩ := Kd.at_int HR200_4.out x8_5 p202 q202
                        cases e202
                        replace hx202_0 := (HB.out.cell (World.block_lt_of_cell? w _ hx202_0)).trans hx202_0
                        replace p202 := eq_true p202
                        replace q202 := eq_true q202
                        have p203 : 0 ≤ ((rd ((rd_T40 l0_0 x6_4).f4) x8_5) : Int) := dT
                        have q203 : (rd ((rd_T40 l0_0 x6_4).f4) x8_5) < (l0_1.length : Int) := dT
                        obtain ⟨ad203, e203, hx203_0⟩ := Kd.at_string HR0_1.out (rd ((rd_T40 l0_0 x6_4).f4) x8_5) p203 q203
                        cases e203
                        replace hx203_0 := (HB.out.cell (World.block_lt_of_cell? w _ hx203_0)).trans hx203_0
                        replace p203 := eq_true p203
                        replace q203 := eq_true q203
                        go_wp2_with (first | (go_at_call 20; (with_reducible refine (spec_l6Long.calls ((rd_T40 l0_0 x6_4).f3) x8_5 t204 _ A58.out).mono ?_); rintro e w' ⟨rfl, ⟨nd, rfl⟩⟩; (try first | exact ⟨rfl, _, World.drewN_drewN _ _ _⟩ | exact ⟨rfl, _, Eq.trans (World.drewN_drewN _ _ _) (congrArg (World.drewN _) (Nat.add_assoc _ _ _))⟩)))
                        repeat (go_quiet (first | (go_at_call 20; (with_reducible refine (spec_l6Long.calls ((rd_T40 l0_0 x6_4).f3) x8_5 t204 _ A58.out).mono ?_); rintro e w' ⟨rfl, ⟨nd, rfl⟩⟩; (try first | exact ⟨rfl, _, World.drewN_drewN _ _ _⟩ | exact ⟨rfl, _, Eq.trans (World.drewN_drewN _ _ _) (congrArg (World.drewN _) (Nat.add_assoc _ _ _))⟩))); try go_wp2_with (first | (go_at_call 20; (with_reducible refine (spec_l6Long.calls ((rd_T40 l0_0 x6_4).f3) x8_5 t204 _ A58.out).mono ?_); rintro e w' ⟨rfl, ⟨nd, rfl⟩⟩; (try first | exact ⟨rfl, _, World.drewN_drewN _ _ _⟩ | exact ⟨rfl, _, Eq.trans (World.drewN_drewN _ _ _) (congrArg (World.drewN _) (Nat.add_assoc _ _ _))⟩))))
                        go_roundg k5
                        case measure => have := HJ1.out; have := HK2.out; have := HK3.out; have := HK4.out; have := HK5.out; omega
                        case rel => exact ⟨(wrap64 (x8_5 + 1)), (by first | rfl | (simp; done) | (simp [*]; done) | (simp; exact (by intro l_; cases l_ <;> rfl : ∀ l_ : List UInt8, l_.isEmpty = !(l_ != [])) _)), H', ⟨by have := HJ1.out; have := HK2.out; have := HK3.out; have := HK4.out; have := HK5.out; omega⟩, ⟨kP BK185⟩, ⟨kP BK201⟩, ⟨bB⟩⟩
                       ·rw [if_neg c59] at H
                        have c59b0 : (((rdOf ByteArray.empty l0_1 (rd ((rd_T40 l0_0 x6_4).f4) x8_5)).size : Int) == t204) = false := beq_eq_false_iff_ne.mpr c59
                        have c59b1 : (((rdOf ByteArray.empty l0_1 (rd ((rd_T40 l0_0 x6_4).f4) x8_5)).size : Int) != t204) = true := bne_iff_ne.mpr c59
                        obtain rfl := Option.some.inj H
                        have hnb63 := NB201_185.out
                        have hnc63 := NB185_201.out
                        have hcz64_0 : wr.cell? ⟨gb201, 0, none⟩ = some (.int .i64 ((rd_T40 l0_0 x6_4).f0)) := (blk_cell BK201.out 0).trans rfl
                        have hcz64_1 : wr.cell? ⟨gb201, 1, none⟩ = some (.int .i64 ((rd_T40 l0_0 x6_4).f1)) := (blk_cell BK201.out 1).trans rfl
                        have hcz64_2 : wr.cell? ⟨gb201, 2, none⟩ = some (.int .i64 ((rd_T40 l0_0 x6_4).f2)) := (blk_cell BK201.out 2).trans rfl
                        have hcz64_3 : wr.cell? ⟨gb201, 3, none⟩ = some (.int .i64 ((rd_T40 l0_0 x6_4).f3)) := (blk_cell BK201.out 3).trans rfl
                        have hcz64_4 : wr.cell? ⟨gb201, 4, none⟩ = some (.slice A200_4 ((rd_T40 l0_0 x6_4).f4).length c200_4) := (blk_cell BK201.out 4).trans rfl
                        have hfz64_0 := fZ BK201 0
                        have hfz64_1 := fZ BK201 1
                        have hfz64_2 := fZ BK201 2
                        have hfz64_3 := fZ BK201 3
                        have hfz64_4 := fZ BK201 4
                        have hcz65_0 := cZ0 BK185
                        have hcz65_1 := cZ1 BK185
                        have hfz65_0 := fZ BK185 0
                        have hfz65_1 := fZ BK185 1
                        have p202 : 0 ≤ (x8_5 : Int) := dT
                        have q202 : x8_5 < (((rd_T40 l0_0 x6_4).f4).length : Int) := dT
                        obtain ⟨ad202, e202, hx202_0⟩ := Kd.at_int HR200_4.out x8_5 p202 q202
                        cases e202
                        replace hx202_0 := (HB.out.cell (World.block_lt_of_cell? w _ hx202_0)).trans hx202_0
                        replace p202 := eq_true p202
                        replace q202 := eq_true q202
                        have p203 : 0 ≤ ((rd ((rd_T40 l0_0 x6_4).f4) x8_5) : Int) := dT
                        have q203 : (rd ((rd_T40 l0_0 x6_4).f4) x8_5) < (l0_1.length : Int) := dT
                        obtain ⟨ad203, e203, hx203_0⟩ := Kd.at_string HR0_1.out (rd ((rd_T40 l0_0 x6_4).f4) x8_5) p203 q203
                        cases e203
                        replace hx203_0 := (HB.out.cell (World.block_lt_of_cell? w _ hx203_0)).trans hx203_0
                        replace p203 := eq_true p203
                        replace q203 := eq_true q203
                        go_wp2_with (first | (go_at_call 20; (with_reducible refine (spec_l6Long.calls ((rd_T40 l0_0 x6_4).f3) x8_5 t204 _ A58.out).mono ?_); rintro e w' ⟨rfl, ⟨nd, rfl⟩⟩; (try first | exact ⟨rfl, _, World.drewN_drewN _ _ _⟩ | exact ⟨rfl, _, Eq.trans (World.drewN_drewN _ _ _) (congrArg (World.drewN _) (Nat.add_assoc _ _ _))⟩)))
                        repeat (go_quiet (first | (go_at_call 20; (with_reducible refine (spec_l6Long.calls ((rd_T40 l0_0 x6_4).f3) x8_5 t204 _ A58.out).mono ?_); rintro e w' ⟨rfl, ⟨nd, rfl⟩⟩; (try first | exact ⟨rfl, _, World.drewN_drewN _ _ _⟩ | exact ⟨rfl, _, Eq.trans (World.drewN_drewN _ _ _) (congrArg (World.drewN _) (Nat.add_assoc _ _ _))⟩))); try go_wp2_with (first | (go_at_call 20; (with_reducible refine (spec_l6Long.calls ((rd_T40 l0_0 x6_4).f3) x8_5 t204 _ A58.out).mono ?_); rintro e w' ⟨rfl, ⟨nd, rfl⟩⟩; (try first | exact ⟨rfl, _, World.drewN_drewN _ _ _⟩ | exact ⟨rfl, _, Eq.trans (World.drewN_drewN _ _ _) (congrArg (World.drewN _) (Nat.add_assoc _ _ _))⟩))))
                        go_ret
                        exact ⟨eW, bB⟩
                      ·rw [if_neg c57] at H
                       exact absurd H (by simp)
                     ·rw [if_neg c56] at H
                      exact absurd H (by simp)
                    ·rw [if_neg c55] at H
                     exact absurd H (by simp)
                   ·rw [if_neg c54] at H
                    have c54b0 : decide (x8_5 < (((rd_T40 l0_0 x6_4).f4).length : Int)) = false := decide_eq_false c54
                    clear c54
                    have H' := aM H
                    clear H
                    have hnb66 := NB201_185.out
                    have hnc66 := NB185_201.out
                    have hcz67_0 : wr.cell? ⟨gb201, 0, none⟩ = some (.int .i64 ((rd_T40 l0_0 x6_4).f0)) := (blk_cell BK201.out 0).trans rfl
                    have hcz67_1 : wr.cell? ⟨gb201, 1, none⟩ = some (.int .i64 ((rd_T40 l0_0 x6_4).f1)) := (blk_cell BK201.out 1).trans rfl
                    have hcz67_2 : wr.cell? ⟨gb201, 2, none⟩ = some (.int .i64 ((rd_T40 l0_0 x6_4).f2)) := (blk_cell BK201.out 2).trans rfl
                    have hcz67_3 : wr.cell? ⟨gb201, 3, none⟩ = some (.int .i64 ((rd_T40 l0_0 x6_4).f3)) := (blk_cell BK201.out 3).trans rfl
                    have hcz67_4 : wr.cell? ⟨gb201, 4, none⟩ = some (.slice A200_4 ((rd_T40 l0_0 x6_4).f4).length c200_4) := (blk_cell BK201.out 4).trans rfl
                    have hfz67_0 := fZ BK201 0
                    have hfz67_1 := fZ BK201 1
                    have hfz67_2 := fZ BK201 2
                    have hfz67_3 := fZ BK201 3
                    have hfz67_4 := fZ BK201 4
                    go_wp2
                    repeat (go_quiet (fail); try go_wp2)
                    go_roundg k5
                    case measure => have := HJ1.out; have := HK2.out; have := HK3.out; have := HK4.out; have := HK5.out; omega
                    case rel => exact ⟨(wrap64 (x6_4 + 1)), (by first | rfl | (simp; done) | (simp [*]; done) | (simp; exact (by intro l_; cases l_ <;> rfl : ∀ l_ : List UInt8, l_.isEmpty = !(l_ != [])) _)), H', ⟨by have := HJ1.out; have := HK2.out; have := HK3.out; have := HK4.out; have := HK5.out; omega⟩, ⟨kP BK185⟩, ⟨bB⟩⟩
                ·rw [if_neg c49] at H
                 exact absurd H (by simp)
               ·rw [if_neg c48] at H
                have c48b0 : decide (x6_4 < (l0_0.length : Int)) = false := decide_eq_false c48
                clear c48
                obtain rfl := Option.some.inj H
                have hcz68_0 := cZ0 BK185
                have hcz68_1 := cZ1 BK185
                have hfz68_0 := fZ BK185 0
                have hfz68_1 := fZ BK185 1
                go_wp2
                repeat (go_quiet (fail); try go_wp2)
                go_ret
                exact ⟨eW, bB⟩
        ·rw [if_neg c23] at H
         exact absurd H (by simp)
       ·rw [if_neg c22] at H
        exact absurd H (by simp)

end Go.Proofs.Ytapliilimfgdjaa.PFnExactFreeOf
