-- Written by xprint.py, a program of this session over the kit's print. Not trusted: Lean checks it.
import Derived.Test.YtapliilimfgdjaaPFnExactFreeOfx0
import Derived.Test.YtapliilimfgdjaaPFnExactFreeOfx6
import Derived.Test.YtapliilimfgdjaaPFnExactFreeOfx8
namespace Go.Proofs.Ytapliilimfgdjaa.PFnExactFreeOf
open Go.RowKit Go.Proofs.YtapliilimfgdjaaW.PrintWords Go.Proofs.YtapliilimfgdjaaW.PrintLast Go.Proofs.YtapliilimfgdjaaW.PrintMore
attribute [local go_sem] max2_int min2_int max_two min_two max_three min_three max_four min_four   -- for this text's walks alone
set_option linter.unusedVariables false
set_option linter.unusedSimpArgs false

/-! ### impl_ShapeOk: function 9 -/
mutual
def impl_ShapeOk.j0 : Nat → Bool → List (S40) → List ByteArray → Option (Bool)
 | 0, _, _, _ => none
 | k + 1, x31, x245000, x245001 => if x31 = true then (some false) else ((slices_ContainsFunc_ShapeOk_1.f k x245000).bind fun t248 => (if t248 = true then (some false) else ((impl_owners.f k x245000 x245001).bind fun bt249 => (if bt249.2 = true then (impl_ShapeOk.l0 k bt249.1 x245001 (x245001.length : Int) 0 x245000 x245001) else (some false)))))
def impl_ShapeOk.l0 : Nat → List Int → List ByteArray → Int → Int → List (S40) → List ByteArray → Option (Bool)
 | 0, _, _, _, _, _, _ => none
 | k + 1, x3, x43, x44, x45, x245000, x245001 => if x45 < x44 then (if 0 ≤ x45 then (if x45 < (x43.length : Int) then (if ((rdOf ByteArray.empty x43 x45).size : Int) > 16 then (some false) else (if x45 < (x3.length : Int) then (if (rd x3 x45) < 0 then (if (rdOf ByteArray.empty x43 x45).toList = ([] : List UInt8) then (impl_ShapeOk.l0 k x3 x43 x44 (wrap64 (x45 + 1)) x245000 x245001) else (some false)) else (impl_ShapeOk.l0 k x3 x43 x44 (wrap64 (x45 + 1)) x245000 x245001)) else (none))) else (none)) else (none)) else (impl_ShapeOk.l1 k x245000 (x245000.length : Int) 0 x245000 x245001)
def impl_ShapeOk.l1 : Nat → List (S40) → Int → Int → List (S40) → List ByteArray → Option (Bool)
 | 0, _, _, _, _, _ => none
 | k + 1, x66, x67, x68, x245000, x245001 => if x68 < x67 then (if 0 ≤ x68 then (if x68 < (x66.length : Int) then (impl_ShapeOk.l2 k ((rd_T40 x66 x68).f3) x66 x67 x68 ((rd_T40 x66 x68).f4) (((rd_T40 x66 x68).f4).length : Int) 0 x245000 x245001) else (none)) else (none)) else (some true)
def impl_ShapeOk.l2 : Nat → Int → List (S40) → Int → Int → List Int → Int → Int → List (S40) → List ByteArray → Option (Bool)
 | 0, _, _, _, _, _, _, _, _, _ => none
 | k + 1, x9, x66, x67, x68, x75, x76, x77, x245000, x245001 => if x77 < x76 then (if 0 ≤ x77 then (if x77 < (x75.length : Int) then (if 0 ≤ (rd x75 x77) then (if (rd x75 x77) < (x245001.length : Int) then (if ((rdOf ByteArray.empty x245001 (rd x75 x77)).size : Int) = (mn x9 16) then (impl_ShapeOk.l2 k (wrap64 (x9 - 16)) x66 x67 x68 x75 x76 (wrap64 (x77 + 1)) x245000 x245001) else (some false)) else (none)) else (none)) else (none)) else (none)) else (impl_ShapeOk.l1 k x66 x67 (wrap64 (x68 + 1)) x245000 x245001)
end
def impl_ShapeOk.f (k : Nat) (l0_0 : List (S40)) (l0_1 : List ByteArray) : Option (Bool) := (impl_within.f (l0_0.length : Int) 2 10).bind fun t245 => (if t245 = true then ((impl_within.f (l0_1.length : Int) 1 36).bind fun t246 => (if t246 = true then (if 0 < (l0_0.length : Int) then (impl_ShapeOk.j0 k (((rd_T40 l0_0 0).f0) != 2) l0_0 l0_1) else (none)) else (impl_ShapeOk.j0 k true l0_0 l0_1))) else (impl_ShapeOk.j0 k true l0_0 l0_1))
theorem impl_ShapeOk.mono_l : ∀ k, (∀ y0 y1 y2, LeO (impl_ShapeOk.j0 k y0 y1 y2) (impl_ShapeOk.j0 (k + 1) y0 y1 y2)) ∧ (∀ y0 y1 y2 y3 y4 y5, LeO (impl_ShapeOk.l0 k y0 y1 y2 y3 y4 y5) (impl_ShapeOk.l0 (k + 1) y0 y1 y2 y3 y4 y5)) ∧ (∀ y0 y1 y2 y3 y4, LeO (impl_ShapeOk.l1 k y0 y1 y2 y3 y4) (impl_ShapeOk.l1 (k + 1) y0 y1 y2 y3 y4)) ∧ (∀ y0 y1 y2 y3 y4 y5 y6 y7 y8, LeO (impl_ShapeOk.l2 k y0 y1 y2 y3 y4 y5 y6 y7 y8) (impl_ShapeOk.l2 (k + 1) y0 y1 y2 y3 y4 y5 y6 y7 y8))
 | 0 => ⟨fun _ _ _ r h => by simp [impl_ShapeOk.j0] at h, fun _ _ _ _ _ _ r h => by simp [impl_ShapeOk.l0] at h, fun _ _ _ _ _ r h => by simp [impl_ShapeOk.l1] at h, fun _ _ _ _ _ _ _ _ _ r h => by simp [impl_ShapeOk.l2] at h⟩
 | k + 1 => by
  obtain ⟨ih0, ih1, ih2, ih3⟩ := impl_ShapeOk.mono_l k
  refine ⟨?_, ?_, ?_, ?_⟩
  ·intro y0 y1 y2
   unfold impl_ShapeOk.j0
   have m0_ := @impl_owners.mono
   have m1_ := @slices_ContainsFunc_ShapeOk_1.mono
   exact mM
  ·intro y0 y1 y2 y3 y4 y5
   unfold impl_ShapeOk.l0
   have m0_ := @impl_owners.mono
   have m1_ := @slices_ContainsFunc_ShapeOk_1.mono
   exact mM
  ·intro y0 y1 y2 y3 y4
   unfold impl_ShapeOk.l1
   have m0_ := @impl_owners.mono
   have m1_ := @slices_ContainsFunc_ShapeOk_1.mono
   exact mM
  ·intro y0 y1 y2 y3 y4 y5 y6 y7 y8
   unfold impl_ShapeOk.l2
   have m0_ := @impl_owners.mono
   have m1_ := @slices_ContainsFunc_ShapeOk_1.mono
   exact mM
theorem impl_ShapeOk.mono : ∀ a0 a1 k, LeO (impl_ShapeOk.f k a0 a1) (impl_ShapeOk.f (k + 1) a0 a1) := by
 intro a0 a1 k
 obtain ⟨ih0, ih1, ih2, ih3⟩ := impl_ShapeOk.mono_l k
 unfold impl_ShapeOk.f
 have m0_ := @impl_owners.mono
 have m1_ := @slices_ContainsFunc_ShapeOk_1.mono
 exact mM
set_option maxHeartbeats 8000000 in
set_option maxRecDepth 100000 in
theorem impl_ShapeOk.calls (k : Nat) (A0_0 : Option Addr) (c0_0 : Nat) (l0_0 : List (S40)) (A0_1 : Option Addr) (c0_1 : Nat) (l0_1 : List ByteArray) (r : Bool) (w : World) (hr0_0 : Kd.C k40 w A0_0 l0_0.length l0_0) (hc0_0 : l0_0.length ≤ c0_0) (hr0_1 : Kd.C Kd.string w A0_1 l0_1.length l0_1) (hc0_1 : l0_1.length ≤ c0_1) (h : impl_ShapeOk.f k l0_0 l0_1 = some r) :
  Calls Try.prog 9 #[.agg #[.slice A0_0 l0_0.length c0_0, .slice A0_1 l0_1.length c0_1]] w fun e w' => e = .returned (.bool r) ∧ Below w.heap.size w w' := by
 have hu30 := Try.underlying30
 have hu40 := Try.underlying40
 have HR0_0 := aM hr0_0
 have HC0_0 := aM hc0_0
 clear hr0_0 hc0_0
 have HR0_1 := aM hr0_1
 have HC0_1 := aM hc0_1
 clear hr0_1 hc0_1
 have HB := aM (Below.refl w.heap.size w)
 unfold impl_ShapeOk.f at h
 have H := h
 clear h
 have HC2 := aM H
 clear H
 go_enter Try.func9, Try.ntmps9
 go_upto_region 1 with (first | ((with_reducible refine gate_dst (N := 1) rfl ?_); (try (refine gate_guard (by rfl) ?_; dsimp only)); refine box_event ?hg (N := 1) ?hd (cs := #[.slice A0_0 l0_0.length c0_0, .slice A0_1 l0_1.length c0_1]) (t := 30) ?hr ?_; (case hd => rfl); (case hg => rfl); (case hr => first | (go_simp; done) | (go_simp; rfl)); intro gb244 hg w3 hbox hb; have n_ := aI (sB HB hb) (aI (aM hbox) (aI (gE HB hg) (gE HB hg))); clear HB; obtain ⟨HB, BK244, GW244, GE244⟩ := n_; (try clear hb hbox hg)))
 (try simp only [Act.put, List.setIfInBounds_toArray, List.set_cons_zero, List.set_cons_succ])
 go_cut [31] (fun v31 wc => ∃ (kq : Nat) (x31_1 : Bool), v31 = .bool x31_1 ∧ Aside0 (impl_ShapeOk.j0 kq x31_1 l0_0 l0_1 = some r) ∧ Aside0 (kq ≤ k) ∧ Aside0 (wc.heap[gb244]? = some (.cells #[(.slice A0_0 l0_0.length c0_0), (.slice A0_1 l0_1.length c0_1)] 30 (0, 0))) ∧ Aside0 (Below w.heap.size w wc))
 case first =>
  have H := HC2.out
  clear HC2
  replace H := Option.bind_eq_some_iff.mp H
  obtain ⟨t245, A40, H⟩ := H
  try dsimp only at H
  have A4 := aM A40
  clear A40
  by_cases c5 : t245 = true
  ·subst c5
   rw [if_pos rfl] at H
   replace H := Option.bind_eq_some_iff.mp H
   obtain ⟨t246, A60, H⟩ := H
   try dsimp only at H
   have A6 := aM A60
   clear A60
   by_cases c7 : t246 = true
   ·subst c7
    rw [if_pos rfl] at H
    by_cases c8 : 0 < (l0_0.length : Int)
    ·rw [if_pos c8] at H
     have c8b0 : decide (0 < (l0_0.length : Int)) = true := decide_eq_true c8
     have c8b1 : decide (0 < l0_0.length) = true := decide_eq_true (by omega)
     clear c8
     (first | rw [c8b0] | (simp only [i64_w, i32_w]; rw [c8b0]) | rw [c8b1] | rw [c8b2] | skip)
     have H' := aM H
     clear H
     have hcz9_0 := cZ0 BK244
     have hcz9_1 := cZ1 BK244
     have hfz9_0 := fZ BK244 0
     have hfz9_1 := fZ BK244 1
     go_wp2_with (first | ((with_reducible refine gate_callee (f := 23) rfl ?_); refine gL (some 15) Try.func23 #[.int .i64 (l0_0.length : Int), .int .i64 2, .int .i64 10] ?_; (with_reducible refine (impl_within.calls (l0_0.length : Int) 2 10 true _ A4.out).mono ?_); rintro e w' ⟨rfl, ⟨nd, rfl⟩⟩; refine ⟨_, rfl, ?_⟩) | (go_at_call 23; (with_reducible refine (impl_within.calls (l0_1.length : Int) 1 36 true _ A6.out).mono ?_); rintro e w' ⟨rfl, ⟨nd, rfl⟩⟩; have p247 : 0 ≤ (0 : Int) := (by omega); have q247 : 0 < (l0_0.length : Int) := dT; obtain ⟨ad247, A247_4, c247_4, e247, hx247_0, hx247_1, hx247_2, hx247_3, hx247_4, hl247_4, hi247_4⟩ := at_T40 HR0_0.out 0 p247 q247; cases e247; have qi247 : (0 < l0_0.length) = True := eq_true (by omega); (try rw [show ((0 : Int)).toNat = 0 from rfl] at hx247_0); (try rw [show 0 * 5 = 0 from rfl] at hx247_0); (try rw [Addr.add_zero'] at hx247_0); (try rw [show ((0 : Int)).toNat = 0 from rfl] at hx247_1); (try rw [show 0 * 5 = 0 from rfl] at hx247_1); (try rw [Addr.add_zero'] at hx247_1); (try rw [show ((0 : Int)).toNat = 0 from rfl] at hx247_2); (try rw [show 0 * 5 = 0 from rfl] at hx247_2); (try rw [Addr.add_zero'] at hx247_2); (try rw [show ((0 : Int)).toNat = 0 from rfl] at hx247_3); (try rw [show 0 * 5 = 0 from rfl] at hx247_3); (try rw [Addr.add_zero'] at hx247_3); (try rw [show ((0 : Int)).toNat = 0 from rfl] at hx247_4); (try rw [show 0 * 5 = 0 from rfl] at hx247_4); (try rw [Addr.add_zero'] at hx247_4); replace hx247_0 := (HB.out.cell (World.block_lt_of_cell? w _ hx247_0)).trans hx247_0; replace hx247_1 := (HB.out.cell (World.block_lt_of_cell? w _ hx247_1)).trans hx247_1; replace hx247_2 := (HB.out.cell (World.block_lt_of_cell? w _ hx247_2)).trans hx247_2; replace hx247_3 := (HB.out.cell (World.block_lt_of_cell? w _ hx247_3)).trans hx247_3; replace hx247_4 := (HB.out.cell (World.block_lt_of_cell? w _ hx247_4)).trans hx247_4; have HR247_4 := aM hi247_4; have HC247_4 := aM hl247_4; clear hi247_4 hl247_4; replace p247 := eq_true p247; replace q247 := eq_true q247))
     go_meet
     case rel => exact ⟨_, ((((rd_T40 l0_0 0).f0) != 2)), (by first | rfl | (simp; done) | (simp [*]; done) | (simp; exact (by intro l_; cases l_ <;> rfl : ∀ l_ : List UInt8, l_.isEmpty = !(l_ != [])) _)), H', ⟨by first | omega | exact Nat.le_refl _⟩, ⟨kP BK244⟩, ⟨bB⟩⟩
    rw [if_neg c8] at H
    exact absurd H (by simp)
   replace c7 := Bool.eq_false_iff.mpr c7
   subst c7
   rw [if_neg (show ¬ (false = true) by decide)] at H
   have H' := aM H
   clear H
   have hcz10_0 := cZ0 BK244
   have hcz10_1 := cZ1 BK244
   have hfz10_0 := fZ BK244 0
   have hfz10_1 := fZ BK244 1
   go_wp2_with (first | ((with_reducible refine gate_callee (f := 23) rfl ?_); refine gL (some 15) Try.func23 #[.int .i64 (l0_0.length : Int), .int .i64 2, .int .i64 10] ?_; (with_reducible refine (impl_within.calls (l0_0.length : Int) 2 10 true _ A4.out).mono ?_); rintro e w' ⟨rfl, ⟨nd, rfl⟩⟩; refine ⟨_, rfl, ?_⟩) | (go_at_call 23; (with_reducible refine (impl_within.calls (l0_1.length : Int) 1 36 false _ A6.out).mono ?_); rintro e w' ⟨rfl, ⟨nd, rfl⟩⟩))
   go_meet
   case rel => exact ⟨_, (true), (by first | rfl | (simp; done) | (simp [*]; done) | (simp; exact (by intro l_; cases l_ <;> rfl : ∀ l_ : List UInt8, l_.isEmpty = !(l_ != [])) _)), H', ⟨by first | omega | exact Nat.le_refl _⟩, ⟨kP BK244⟩, ⟨bB⟩⟩
  replace c5 := Bool.eq_false_iff.mpr c5
  subst c5
  rw [if_neg (show ¬ (false = true) by decide)] at H
  have H' := aM H
  clear H
  have hcz11_0 := cZ0 BK244
  have hcz11_1 := cZ1 BK244
  have hfz11_0 := fZ BK244 0
  have hfz11_1 := fZ BK244 1
  go_wp2_with (first | ((with_reducible refine gate_callee (f := 23) rfl ?_); refine gL (some 15) Try.func23 #[.int .i64 (l0_0.length : Int), .int .i64 2, .int .i64 10] ?_; (with_reducible refine (impl_within.calls (l0_0.length : Int) 2 10 false _ A4.out).mono ?_); rintro e w' ⟨rfl, ⟨nd, rfl⟩⟩; refine ⟨_, rfl, ?_⟩))
  go_meet
  case rel => exact ⟨_, (true), (by first | rfl | (simp; done) | (simp [*]; done) | (simp; exact (by intro l_; cases l_ <;> rfl : ∀ l_ : List UInt8, l_.isEmpty = !(l_ != [])) _)), H', ⟨by first | omega | exact Nat.le_refl _⟩, ⟨kP BK244⟩, ⟨bB⟩⟩
 case rest =>
  clear HC2
  try clear c2
  try clear p2
  try clear q2
  try clear hx2
  try clear qi2
  try clear c5
  try clear c7
  try clear c8
  try clear c8b0
  try clear c8b1
  try clear c8b2
  try clear c9
  try clear hcz10_0
  try clear hcz10_1
  try clear hcz11_0
  try clear hcz11_1
  try clear hcz9_0
  try clear hcz9_1
  try clear hfz10_0
  try clear hfz10_1
  try clear hfz11_0
  try clear hfz11_1
  try clear hfz9_0
  try clear hfz9_1
  try clear hx247_0
  try clear hx247_1
  try clear hx247_2
  try clear hx247_3
  try clear hx247_4
  try clear p247
  try clear q247
  obtain ⟨kq, x31_1, rfl, HA, HJ1, BK244, HB⟩ := hcut
  cases kq with
  | zero => exact absurd HA.out (by simp [impl_ShapeOk.j0])
  | succ kj1 =>
   have H := HA.out
   clear HA
   simp only [impl_ShapeOk.j0] at H
   by_cases c12 : x31_1 = true
   ·subst c12
    rw [if_pos rfl] at H
    obtain rfl := Option.some.inj H
    go_wp2
    go_ret
    exact ⟨eW, bB⟩
   ·replace c12 := Bool.eq_false_iff.mpr c12
    subst c12
    rw [if_neg (show ¬ (false = true) by decide)] at H
    replace H := Option.bind_eq_some_iff.mp H
    obtain ⟨t248, A130, H⟩ := H
    try dsimp only at H
    have A13 := aM A130
    clear A130
    by_cases c14 : t248 = true
    ·subst c14
     rw [if_pos rfl] at H
     obtain rfl := Option.some.inj H
     have hcz15_0 := cZ0 BK244
     have hcz15_1 := cZ1 BK244
     have hfz15_0 := fZ BK244 0
     have hfz15_1 := fZ BK244 1
     go_wp2_with (first | ((with_reducible refine gate_callee (f := 24) rfl ?_); refine gL (some 34) Try.func24 #[.slice A0_0 l0_0.length c0_0, .func (.func 25) #[] #[]] ?_; (with_reducible refine (slices_ContainsFunc_ShapeOk_1.calls kj1 _ _ l0_0  true _ ?side1 ?side2 A13.out).mono ?_); (case side1 => exact cS HR0_0 HB); (case side2 => exact HC0_0.out); rintro e w16 ⟨rfl, hb⟩; refine ⟨_, rfl, ?_⟩; have n_ := aI (kB BK244 hb) (sB HB hb); clear BK244 HB; obtain ⟨BK244, HB⟩ := n_; (try clear hb)))
     go_ret
     exact ⟨eW, bB⟩
    ·replace c14 := Bool.eq_false_iff.mpr c14
     subst c14
     rw [if_neg (show ¬ (false = true) by decide)] at H
     replace H := Option.bind_eq_some_iff.mp H
     obtain ⟨⟨t249, t252⟩, A170, H⟩ := H
     try dsimp only at H
     have A17 := aM A170
     clear A170
     by_cases c18 : t252 = true
     ·subst c18
      rw [if_pos rfl] at H
      have H' := aM H
      clear H
      have hcz19_0 := cZ0 BK244
      have hcz19_1 := cZ1 BK244
      have hfz19_0 := fZ BK244 0
      have hfz19_1 := fZ BK244 1
      go_wp2_with (first | ((with_reducible refine gate_callee (f := 24) rfl ?_); refine gL (some 34) Try.func24 #[.slice A0_0 l0_0.length c0_0, .func (.func 25) #[] #[]] ?_; (with_reducible refine (slices_ContainsFunc_ShapeOk_1.calls kj1 _ _ l0_0  false _ ?side1 ?side2 A13.out).mono ?_); (case side1 => exact cS HR0_0 HB); (case side2 => exact HC0_0.out); rintro e w20 ⟨rfl, hb⟩; refine ⟨_, rfl, ?_⟩; have n_ := aI (kB BK244 hb) (sB HB hb); clear BK244 HB; obtain ⟨BK244, HB⟩ := n_; (try clear hb); have hcz21_0 := cZ0 BK244; have hcz21_1 := cZ1 BK244; have hfz21_0 := fZ BK244 0; have hfz21_1 := fZ BK244 1) | ((with_reducible refine gate_callee (f := 27) rfl ?_); refine gL (some 37) Try.func27 #[.agg #[.slice A0_0 l0_0.length c0_0, .slice A0_1 l0_1.length c0_1]] ?_; (with_reducible refine (impl_owners.calls kj1 _ _ l0_0 _ _ l0_1 t249 true _ ?side1 ?side2 ?side3 ?side4 A17.out).mono ?_); (case side1 => exact cS HR0_0 HB); (case side2 => exact HC0_0.out); (case side3 => exact cS HR0_1 HB); (case side4 => exact HC0_1.out); rintro e w22 ⟨v250, rfl, ho0, hb⟩; refine ⟨_, rfl, ?_⟩; have n_ := aI (lR HB ho0) (aI (kB BK244 hb) (sB HB hb)); clear BK244 HB; obtain ⟨HO251, BK244, HB⟩ := n_; (try clear hb ho0); have hcz23_0 := cZ0 BK244; have hcz23_1 := cZ1 BK244; have hfz23_0 := fZ BK244 0; have hfz23_1 := fZ BK244 1))
      go_loopg [45] kj1 (fun kq v45 w' => ∃ (x45_2 : Int), v45 = .int .i64 x45_2 ∧ Aside0 (impl_ShapeOk.l0 kq t249 l0_1 (l0_1.length : Int) x45_2 l0_0 l0_1 = some r) ∧ Aside0 (kq ≤ kj1) ∧ Aside0 (Kd.R (Kd.int .i64) 3 w' w.heap.size (fun _ => True) v250 t249) ∧ Aside0 (w'.heap[gb244]? = some (.cells #[(.slice A0_0 l0_0.length c0_0), (.slice A0_1 l0_1.length c0_1)] 30 (0, 0))) ∧ Aside0 (Below w.heap.size w w'))
      case atStart => exact ⟨(0), (by first | rfl | (simp; done) | (simp [*]; done) | (simp; exact (by intro l_; cases l_ <;> rfl : ∀ l_ : List UInt8, l_.isEmpty = !(l_ != [])) _)), H', ⟨Nat.le_refl _⟩, ⟨rP HO251.out⟩, ⟨kP BK244⟩, ⟨bB⟩⟩
      case round =>
       clear H'
       try clear c1
       try clear c2
       try clear p2
       try clear q2
       try clear hx2
       try clear qi2
       try clear c5
       try clear c7
       try clear c8
       try clear c8b0
       try clear c8b1
       try clear c8b2
       try clear c9
       try clear c10
       try clear c12
       try clear c14
       try clear c18
       try clear c23
       try clear hcz10_0
       try clear hcz10_1
       try clear hcz11_0
       try clear hcz11_1
       try clear hcz15_0
       try clear hcz15_1
       try clear hcz19_0
       try clear hcz19_1
       try clear hcz21_0
       try clear hcz21_1
       try clear hcz23_0
       try clear hcz23_1
       try clear hcz9_0
       try clear hcz9_1
       try clear hfz10_0
       try clear hfz10_1
       try clear hfz11_0
       try clear hfz11_1
       try clear hfz15_0
       try clear hfz15_1
       try clear hfz19_0
       try clear hfz19_1
       try clear hfz21_0
       try clear hfz21_1
       try clear hfz23_0
       try clear hfz23_1
       try clear hfz9_0
       try clear hfz9_1
       try clear hx247_0
       try clear hx247_1
       try clear hx247_2
       try clear hx247_3
       try clear hx247_4
       try clear p2
       try clear p247
       try clear q2
       try clear q247
       obtain ⟨x45_2, rfl, HA, HK2, HO_3, BK244, HB⟩ := hrel
       cases gk with
       | zero => exact absurd HA.out (by simp [impl_ShapeOk.l0])
       | succ k2 =>
        have H := HA.out
        clear HA
        simp only [impl_ShapeOk.l0] at H
        by_cases c24 : x45_2 < (l0_1.length : Int)
        ·rw [if_pos c24] at H
         have c24b0 : decide (x45_2 < (l0_1.length : Int)) = true := decide_eq_true c24
         clear c24
         by_cases c25 : 0 ≤ x45_2
         ·rw [if_pos c25] at H
          have c25b0 : decide (0 ≤ x45_2) = true := decide_eq_true c25
          clear c25
          by_cases c26 : x45_2 < (l0_1.length : Int)
          ·rw [if_pos c26] at H
           have c26b0 : decide (x45_2 < (l0_1.length : Int)) = true := decide_eq_true c26
           clear c26
           by_cases c27 : ((rdOf ByteArray.empty l0_1 x45_2).size : Int) > 16
           ·rw [if_pos c27] at H
            have c27b0 : decide (16 < ((rdOf ByteArray.empty l0_1 x45_2).size : Int)) = true := decide_eq_true c27
            have c27b1 : decide (16 < (rdOf ByteArray.empty l0_1 x45_2).size) = true := decide_eq_true (by omega)
            clear c27
            obtain rfl := Option.some.inj H
            have p253 : 0 ≤ (x45_2 : Int) := dT
            have q253 : x45_2 < (l0_1.length : Int) := dT
            obtain ⟨ad253, e253, hx253_0⟩ := Kd.at_string HR0_1.out x45_2 p253 q253
            cases e253
            replace hx253_0 := (HB.out.cell (World.block_lt_of_cell? w _ hx253_0)).trans hx253_0
            replace p253 := eq_true p253
            replace q253 := eq_true q253
            go_wp2
            go_ret
            exact ⟨eW, bB⟩
           ·rw [if_neg c27] at H
            have c27b0 : decide (16 < ((rdOf ByteArray.empty l0_1 x45_2).size : Int)) = false := decide_eq_false c27
            have c27b1 : decide (16 < (rdOf ByteArray.empty l0_1 x45_2).size) = false := decide_eq_false (by omega)
            clear c27
            by_cases c28 : x45_2 < (t249.length : Int)
            ·rw [if_pos c28] at H
             have c28b0 : decide (x45_2 < (t249.length : Int)) = true := decide_eq_true c28
             clear c28
             by_cases c29 : (rd t249 x45_2) < 0
             ·rw [if_pos c29] at H
              have c29b0 : decide ((rd t249 x45_2) < 0) = true := decide_eq_true c29
              clear c29
              by_cases c30 : (rdOf ByteArray.empty l0_1 x45_2).toList = ([] : List UInt8)
              ·rw [if_pos c30] at H
               have c30b0 : ((rdOf ByteArray.empty l0_1 x45_2).toList == ([] : List UInt8)) = true := beq_iff_eq.mpr c30
               have c30b1 : ((rdOf ByteArray.empty l0_1 x45_2).toList != ([] : List UInt8)) = false := bne_eq_false_iff_eq.mpr c30
               clear c30
               have H' := aM H
               clear H
               have p253 : 0 ≤ (x45_2 : Int) := dT
               have q253 : x45_2 < (l0_1.length : Int) := dT
               obtain ⟨ad253, e253, hx253_0⟩ := Kd.at_string HR0_1.out x45_2 p253 q253
               cases e253
               replace hx253_0 := (HB.out.cell (World.block_lt_of_cell? w _ hx253_0)).trans hx253_0
               replace p253 := eq_true p253
               replace q253 := eq_true q253
               obtain ⟨Ao31, co31, eo31⟩ := Kd.R_slice HO_3.out
               subst eo31
               have p254 : 0 ≤ (x45_2 : Int) := dT
               have q254 : x45_2 < (t249.length : Int) := dT
               obtain ⟨ad254, e254, hx254_0⟩ := Kd.at_int (Kd.R_reads' HO_3.out).2.2 x45_2 p254 q254
               cases e254
               replace p254 := eq_true p254
               replace q254 := eq_true q254
               go_wp2
               go_roundg k2
               case measure => have := HJ1.out; have := HK2.out; omega
               case rel => exact ⟨(wrap64 (x45_2 + 1)), (by first | rfl | (simp; done) | (simp [*]; done) | (simp; exact (by intro l_; cases l_ <;> rfl : ∀ l_ : List UInt8, l_.isEmpty = !(l_ != [])) _)), H', ⟨by have := HJ1.out; have := HK2.out; omega⟩, ⟨rP HO_3.out⟩, ⟨kP BK244⟩, ⟨bB⟩⟩
              ·rw [if_neg c30] at H
               have c30b0 : ((rdOf ByteArray.empty l0_1 x45_2).toList == ([] : List UInt8)) = false := beq_eq_false_iff_ne.mpr c30
               have c30b1 : ((rdOf ByteArray.empty l0_1 x45_2).toList != ([] : List UInt8)) = true := bne_iff_ne.mpr c30
               obtain rfl := Option.some.inj H
               have p253 : 0 ≤ (x45_2 : Int) := dT
               have q253 : x45_2 < (l0_1.length : Int) := dT
               obtain ⟨ad253, e253, hx253_0⟩ := Kd.at_string HR0_1.out x45_2 p253 q253
               cases e253
               replace hx253_0 := (HB.out.cell (World.block_lt_of_cell? w _ hx253_0)).trans hx253_0
               replace p253 := eq_true p253
               replace q253 := eq_true q253
               obtain ⟨Ao32, co32, eo32⟩ := Kd.R_slice HO_3.out
               subst eo32
               have p254 : 0 ≤ (x45_2 : Int) := dT
               have q254 : x45_2 < (t249.length : Int) := dT
               obtain ⟨ad254, e254, hx254_0⟩ := Kd.at_int (Kd.R_reads' HO_3.out).2.2 x45_2 p254 q254
               cases e254
               replace p254 := eq_true p254
               replace q254 := eq_true q254
               go_wp2
               go_ret
               exact ⟨eW, bB⟩
             ·rw [if_neg c29] at H
              have c29b0 : decide ((rd t249 x45_2) < 0) = false := decide_eq_false c29
              clear c29
              have H' := aM H
              clear H
              have p253 : 0 ≤ (x45_2 : Int) := dT
              have q253 : x45_2 < (l0_1.length : Int) := dT
              obtain ⟨ad253, e253, hx253_0⟩ := Kd.at_string HR0_1.out x45_2 p253 q253
              cases e253
              replace hx253_0 := (HB.out.cell (World.block_lt_of_cell? w _ hx253_0)).trans hx253_0
              replace p253 := eq_true p253
              replace q253 := eq_true q253
              obtain ⟨Ao33, co33, eo33⟩ := Kd.R_slice HO_3.out
              subst eo33
              have p254 : 0 ≤ (x45_2 : Int) := dT
              have q254 : x45_2 < (t249.length : Int) := dT
              obtain ⟨ad254, e254, hx254_0⟩ := Kd.at_int (Kd.R_reads' HO_3.out).2.2 x45_2 p254 q254
              cases e254
              replace p254 := eq_true p254
              replace q254 := eq_true q254
              go_wp2
              go_roundg k2
              case measure => have := HJ1.out; have := HK2.out; omega
              case rel => exact ⟨(wrap64 (x45_2 + 1)), (by first | rfl | (simp; done) | (simp [*]; done) | (simp; exact (by intro l_; cases l_ <;> rfl : ∀ l_ : List UInt8, l_.isEmpty = !(l_ != [])) _)), H', ⟨by have := HJ1.out; have := HK2.out; omega⟩, ⟨rP HO_3.out⟩, ⟨kP BK244⟩, ⟨bB⟩⟩
            ·rw [if_neg c28] at H
             exact absurd H (by simp)
          ·rw [if_neg c26] at H
           exact absurd H (by simp)
         ·rw [if_neg c25] at H
          exact absurd H (by simp)
        ·rw [if_neg c24] at H
         have c24b0 : decide (x45_2 < (l0_1.length : Int)) = false := decide_eq_false c24
         clear c24
         have H' := aM H
         clear H
         have hcz34_0 := cZ0 BK244
         have hcz34_1 := cZ1 BK244
         have hfz34_0 := fZ BK244 0
         have hfz34_1 := fZ BK244 1
         go_wp2
         go_loopg [68] k2 (fun kq v68 w' => ∃ (x68_3 : Int), v68 = .int .i64 x68_3 ∧ Aside0 (impl_ShapeOk.l1 kq l0_0 (l0_0.length : Int) x68_3 l0_0 l0_1 = some r) ∧ Aside0 (kq ≤ k2) ∧ Aside0 (w'.heap[gb244]? = some (.cells #[(.slice A0_0 l0_0.length c0_0), (.slice A0_1 l0_1.length c0_1)] 30 (0, 0))) ∧ Aside0 (Below w.heap.size w w'))
         case atStart => exact ⟨(0), (by first | rfl | (simp; done) | (simp [*]; done) | (simp; exact (by intro l_; cases l_ <;> rfl : ∀ l_ : List UInt8, l_.isEmpty = !(l_ != [])) _)), H', ⟨Nat.le_refl _⟩, ⟨kP BK244⟩, ⟨bB⟩⟩
         case round =>
          clear H'
          try clear c1
          try clear c2
          try clear p2
          try clear q2
          try clear hx2
          try clear qi2
          try clear c3
          try clear c5
          try clear p6
          try clear c7
          try clear c8
          try clear c8b0
          try clear c8b1
          try clear c8b2
          try clear c9
          try clear c10
          try clear c12
          try clear c14
          try clear c18
          try clear c23
          try clear c24
          try clear c24b0
          try clear p24
          try clear q24
          try clear hx24
          try clear qi24
          try clear c25
          try clear c25b0
          try clear p25
          try clear q25
          try clear hx25
          try clear c26
          try clear c26b0
          try clear c27
          try clear c27b0
          try clear c27b1
          try clear c28
          try clear c28b0
          try clear c29
          try clear c29b0
          try clear c30
          try clear c30b0
          try clear c30b1
          try clear hcz10_0
          try clear hcz10_1
          try clear hcz11_0
          try clear hcz11_1
          try clear hcz15_0
          try clear hcz15_1
          try clear hcz19_0
          try clear hcz19_1
          try clear hcz21_0
          try clear hcz21_1
          try clear hcz23_0
          try clear hcz23_1
          try clear hcz34_0
          try clear hcz34_1
          try clear hcz9_0
          try clear hcz9_1
          try clear hfz10_0
          try clear hfz10_1
          try clear hfz11_0
          try clear hfz11_1
          try clear hfz15_0
          try clear hfz15_1
          try clear hfz19_0
          try clear hfz19_1
          try clear hfz21_0
          try clear hfz21_1
          try clear hfz23_0
          try clear hfz23_1
          try clear hfz34_0
          try clear hfz34_1
          try clear hfz9_0
          try clear hfz9_1
          try clear hx247_0
          try clear hx247_1
          try clear hx247_2
          try clear hx247_3
          try clear hx247_4
          try clear hx253_0
          try clear hx254_0
          try clear p2
          try clear p247
          try clear p253
          try clear p254
          try clear q2
          try clear q247
          try clear q253
          try clear q254
          obtain ⟨x68_3, rfl, HA, HK3, BK244, HB⟩ := hrel
          cases gk with
          | zero => exact absurd HA.out (by simp [impl_ShapeOk.l1])
          | succ k3 =>
           have H := HA.out
           clear HA
           simp only [impl_ShapeOk.l1] at H
           by_cases c35 : x68_3 < (l0_0.length : Int)
           ·rw [if_pos c35] at H
            have c35b0 : decide (x68_3 < (l0_0.length : Int)) = true := decide_eq_true c35
            clear c35
            by_cases c36 : 0 ≤ x68_3
            ·rw [if_pos c36] at H
             have c36b0 : decide (0 ≤ x68_3) = true := decide_eq_true c36
             clear c36
             by_cases c37 : x68_3 < (l0_0.length : Int)
             ·rw [if_pos c37] at H
              have c37b0 : decide (x68_3 < (l0_0.length : Int)) = true := decide_eq_true c37
              clear c37
              have H' := aM H
              clear H
              have p255 : 0 ≤ (x68_3 : Int) := dT
              have q255 : x68_3 < (l0_0.length : Int) := dT
              obtain ⟨ad255, A255_4, c255_4, e255, hx255_0, hx255_1, hx255_2, hx255_3, hx255_4, hl255_4, hi255_4⟩ := at_T40 HR0_0.out x68_3 p255 q255
              cases e255
              replace hx255_0 := (HB.out.cell (World.block_lt_of_cell? w _ hx255_0)).trans hx255_0
              replace hx255_1 := (HB.out.cell (World.block_lt_of_cell? w _ hx255_1)).trans hx255_1
              replace hx255_2 := (HB.out.cell (World.block_lt_of_cell? w _ hx255_2)).trans hx255_2
              replace hx255_3 := (HB.out.cell (World.block_lt_of_cell? w _ hx255_3)).trans hx255_3
              replace hx255_4 := (HB.out.cell (World.block_lt_of_cell? w _ hx255_4)).trans hx255_4
              have HR255_4 := aM hi255_4
              have HC255_4 := aM hl255_4
              clear hi255_4 hl255_4
              replace p255 := eq_true p255
              replace q255 := eq_true q255
              go_wp2_with (first | ((with_reducible refine gate_dst (N := 8) rfl ?_); (try (refine gate_guard (by rfl) ?_; dsimp only)); refine box_event ?hg (N := 8) ?hd (cs := #[.int .i64 0, .int .i64 0, .int .i64 0, .int .i64 0, .slice none 0 0]) (t := 40) ?hr ?_; (case hd => rfl); (case hg => rfl); (case hr => first | (go_simp; done) | (go_simp; rfl)); intro gb256 hg w38 hbox hb; have n_ := aI (kB BK244 hb) (aI (sB HB hb) (aI (aM hbox) (aI (gE HB hg) (aI (gE HB hg) (aI (nL BK244 hg) (nG BK244 hg)))))); clear BK244 HB; obtain ⟨BK244, HB, BK256, GW256, GE256, NB244_256, NB256_244⟩ := n_; (try clear hb hbox hg); have hnb39 := NB256_244.out; have hnc39 := NB244_256.out; have hcz40_0 := cZ0 BK256; have hcz40_1 := cZ1 BK256; have hcz40_2 : w38.cell? ⟨gb256, 2, none⟩ = some (.int .i64 0) := (blk_cell BK256.out 2).trans rfl; have hcz40_3 : w38.cell? ⟨gb256, 3, none⟩ = some (.int .i64 0) := (blk_cell BK256.out 3).trans rfl; have hcz40_4 : w38.cell? ⟨gb256, 4, none⟩ = some (.slice none 0 0) := (blk_cell BK256.out 4).trans rfl; have hfz40_0 := fZ BK256 0; have hfz40_1 := fZ BK256 1; have hfz40_2 := fZ BK256 2; have hfz40_3 := fZ BK256 3; have hfz40_4 := fZ BK256 4))
              go_loopg [9, 77] k3 (fun kq v9 v77 w' => ∃ (x9_4 : Int) (x77_4 : Int), v9 = .int .i64 x9_4 ∧ v77 = .int .i64 x77_4 ∧ Aside0 (impl_ShapeOk.l2 kq x9_4 l0_0 (l0_0.length : Int) x68_3 ((rd_T40 l0_0 x68_3).f4) (((rd_T40 l0_0 x68_3).f4).length : Int) x77_4 l0_0 l0_1 = some r) ∧ Aside0 (kq ≤ k3) ∧ Aside0 (w'.heap[gb244]? = some (.cells #[(.slice (some ad255) l0_0.length c0_0), (.slice A0_1 l0_1.length c0_1)] 30 (0, 0))) ∧ Aside0 (w'.heap[gb256]? = some (.cells #[.int .i64 ((rd_T40 l0_0 x68_3).f0), .int .i64 ((rd_T40 l0_0 x68_3).f1), .int .i64 ((rd_T40 l0_0 x68_3).f2), .int .i64 ((rd_T40 l0_0 x68_3).f3), (.slice A255_4 ((rd_T40 l0_0 x68_3).f4).length c255_4)] 40 (0, 0))) ∧ Aside0 (Below w.heap.size w w'))
              case atStart => exact ⟨((rd_T40 l0_0 x68_3).f3), (0), (by first | rfl | (simp; done) | (simp [*]; done) | (simp; exact (by intro l_; cases l_ <;> rfl : ∀ l_ : List UInt8, l_.isEmpty = !(l_ != [])) _)), (by first | rfl | (simp; done) | (simp [*]; done) | (simp; exact (by intro l_; cases l_ <;> rfl : ∀ l_ : List UInt8, l_.isEmpty = !(l_ != [])) _)), H', ⟨Nat.le_refl _⟩, ⟨kP BK244⟩, ⟨by (with_reducible repeat (first | apply bN | apply bD | apply bA)); refine blk_put (cs := #[.int .i64 ((rd_T40 l0_0 x68_3).f0), .int .i64 ((rd_T40 l0_0 x68_3).f1), .int .i64 ((rd_T40 l0_0 x68_3).f2), .int .i64 ((rd_T40 l0_0 x68_3).f3), .slice none 0 0]) ?_ 4 _ rfl; (with_reducible repeat (first | apply bN | apply bD | apply bA)); refine blk_put (cs := #[.int .i64 ((rd_T40 l0_0 x68_3).f0), .int .i64 ((rd_T40 l0_0 x68_3).f1), .int .i64 ((rd_T40 l0_0 x68_3).f2), .int .i64 0, .slice none 0 0]) ?_ 3 _ rfl; (with_reducible repeat (first | apply bN | apply bD | apply bA)); refine blk_put (cs := #[.int .i64 ((rd_T40 l0_0 x68_3).f0), .int .i64 ((rd_T40 l0_0 x68_3).f1), .int .i64 0, .int .i64 0, .slice none 0 0]) ?_ 2 _ rfl; (with_reducible repeat (first | apply bN | apply bD | apply bA)); refine blk_put (cs := #[.int .i64 ((rd_T40 l0_0 x68_3).f0), .int .i64 0, .int .i64 0, .int .i64 0, .slice none 0 0]) ?_ 1 _ rfl; (with_reducible repeat (first | apply bN | apply bD | apply bA)); refine blk_put (cs := #[.int .i64 0, .int .i64 0, .int .i64 0, .int .i64 0, .slice none 0 0]) ?_ 0 _ rfl; (with_reducible repeat (first | apply bN | apply bD | apply bA)); exact BK256.out⟩, ⟨bB⟩⟩
              case round =>
               clear H'
               try clear c1
               try clear c2
               try clear p2
               try clear q2
               try clear hx2
               try clear qi2
               try clear c3
               try clear c5
               try clear p6
               try clear c7
               try clear c8
               try clear c8b0
               try clear c8b1
               try clear c8b2
               try clear c9
               try clear c10
               try clear c12
               try clear c14
               try clear c18
               try clear c23
               try clear c24
               try clear c24b0
               try clear p24
               try clear q24
               try clear hx24
               try clear qi24
               try clear c25
               try clear c25b0
               try clear p25
               try clear q25
               try clear hx25
               try clear c26
               try clear c26b0
               try clear c27
               try clear c27b0
               try clear c27b1
               try clear c28
               try clear c28b0
               try clear c29
               try clear c29b0
               try clear c30
               try clear c30b0
               try clear c30b1
               try clear c35
               try clear c35b0
               try clear c36
               try clear c36b0
               try clear c37
               try clear c37b0
               try clear c39
               try clear hcz10_0
               try clear hcz10_1
               try clear hcz11_0
               try clear hcz11_1
               try clear hcz15_0
               try clear hcz15_1
               try clear hcz19_0
               try clear hcz19_1
               try clear hcz21_0
               try clear hcz21_1
               try clear hcz23_0
               try clear hcz23_1
               try clear hcz34_0
               try clear hcz34_1
               try clear hcz40_0
               try clear hcz40_1
               try clear hcz40_2
               try clear hcz40_3
               try clear hcz40_4
               try clear hcz9_0
               try clear hcz9_1
               try clear hfz10_0
               try clear hfz10_1
               try clear hfz11_0
               try clear hfz11_1
               try clear hfz15_0
               try clear hfz15_1
               try clear hfz19_0
               try clear hfz19_1
               try clear hfz21_0
               try clear hfz21_1
               try clear hfz23_0
               try clear hfz23_1
               try clear hfz34_0
               try clear hfz34_1
               try clear hfz40_0
               try clear hfz40_1
               try clear hfz40_2
               try clear hfz40_3
               try clear hfz40_4
               try clear hfz9_0
               try clear hfz9_1
               try clear hx247_0
               try clear hx247_1
               try clear hx247_2
               try clear hx247_3
               try clear hx247_4
               try clear hx253_0
               try clear hx254_0
               try clear hx255_0
               try clear hx255_1
               try clear hx255_2
               try clear hx255_3
               try clear hx255_4
               try clear p2
               try clear p24
               try clear p247
               try clear p25
               try clear p253
               try clear p254
               try clear p255
               try clear p6
               try clear q2
               try clear q24
               try clear q247
               try clear q25
               try clear q253
               try clear q254
               try clear q255
               obtain ⟨x9_4, x77_4, rfl, rfl, HA, HK4, BK244, BK256, HB⟩ := hrel
               cases gk with
               | zero => exact absurd HA.out (by simp [impl_ShapeOk.l2])
               | succ k4 =>
                have H := HA.out
                clear HA
                simp only [impl_ShapeOk.l2] at H
                by_cases c41 : x77_4 < (((rd_T40 l0_0 x68_3).f4).length : Int)
                ·rw [if_pos c41] at H
                 have c41b0 : decide (x77_4 < (((rd_T40 l0_0 x68_3).f4).length : Int)) = true := decide_eq_true c41
                 clear c41
                 by_cases c42 : 0 ≤ x77_4
                 ·rw [if_pos c42] at H
                  have c42b0 : decide (0 ≤ x77_4) = true := decide_eq_true c42
                  clear c42
                  by_cases c43 : x77_4 < (((rd_T40 l0_0 x68_3).f4).length : Int)
                  ·rw [if_pos c43] at H
                   have c43b0 : decide (x77_4 < (((rd_T40 l0_0 x68_3).f4).length : Int)) = true := decide_eq_true c43
                   clear c43
                   by_cases c44 : 0 ≤ (rd ((rd_T40 l0_0 x68_3).f4) x77_4)
                   ·rw [if_pos c44] at H
                    have c44b0 : decide (0 ≤ (rd ((rd_T40 l0_0 x68_3).f4) x77_4)) = true := decide_eq_true c44
                    clear c44
                    by_cases c45 : (rd ((rd_T40 l0_0 x68_3).f4) x77_4) < (l0_1.length : Int)
                    ·rw [if_pos c45] at H
                     have c45b0 : decide ((rd ((rd_T40 l0_0 x68_3).f4) x77_4) < (l0_1.length : Int)) = true := decide_eq_true c45
                     clear c45
                     obtain ⟨ji46, hji46⟩ : ∃ j_ : Int, (mn x9_4 16) = j_ := ⟨_, rfl⟩
                     replace H : (if ((rdOf ByteArray.empty l0_1 (rd ((rd_T40 l0_0 x68_3).f4) x77_4)).size : Int) = (ji46) then (impl_ShapeOk.l2 k4 (wrap64 (x9_4 - 16)) l0_0 (l0_0.length : Int) x68_3 ((rd_T40 l0_0 x68_3).f4) (((rd_T40 l0_0 x68_3).f4).length : Int) (wrap64 (x77_4 + 1)) l0_0 l0_1) else (some false)) = some r := by first | (rw [hji46] at H; exact H) | (simp only [hji46] at H ⊢; exact H)
                     have hji46_ : (if 16 < x9_4 then 16 else x9_4) = ji46 := hji46
                     by_cases c47 : ((rdOf ByteArray.empty l0_1 (rd ((rd_T40 l0_0 x68_3).f4) x77_4)).size : Int) = (ji46)
                     ·rw [if_pos c47] at H
                      have c47b0 : (((rdOf ByteArray.empty l0_1 (rd ((rd_T40 l0_0 x68_3).f4) x77_4)).size : Int) == (ji46)) = true := beq_iff_eq.mpr c47
                      have c47b1 : (((rdOf ByteArray.empty l0_1 (rd ((rd_T40 l0_0 x68_3).f4) x77_4)).size : Int) != (ji46)) = false := bne_eq_false_iff_eq.mpr c47
                      clear c47
                      have H' := aM H
                      clear H
                      have p257 : 0 ≤ (x77_4 : Int) := dT
                      have q257 : x77_4 < (((rd_T40 l0_0 x68_3).f4).length : Int) := dT
                      obtain ⟨ad257, e257, hx257_0⟩ := Kd.at_int HR255_4.out x77_4 p257 q257
                      cases e257
                      replace hx257_0 := (HB.out.cell (World.block_lt_of_cell? w _ hx257_0)).trans hx257_0
                      replace p257 := eq_true p257
                      replace q257 := eq_true q257
                      have hnb48 := NB244_256.out
                      have hnc48 := NB256_244.out
                      have hcz49_0 := cZ0 BK244
                      have hcz49_1 := cZ1 BK244
                      have hfz49_0 := fZ BK244 0
                      have hfz49_1 := fZ BK244 1
                      have p258 : 0 ≤ ((rd ((rd_T40 l0_0 x68_3).f4) x77_4) : Int) := dT
                      have q258 : (rd ((rd_T40 l0_0 x68_3).f4) x77_4) < (l0_1.length : Int) := dT
                      obtain ⟨ad258, e258, hx258_0⟩ := Kd.at_string HR0_1.out (rd ((rd_T40 l0_0 x68_3).f4) x77_4) p258 q258
                      cases e258
                      replace hx258_0 := (HB.out.cell (World.block_lt_of_cell? w _ hx258_0)).trans hx258_0
                      replace p258 := eq_true p258
                      replace q258 := eq_true q258
                      go_wp2
                      go_roundg k4
                      case measure => have := HJ1.out; have := HK2.out; have := HK3.out; have := HK4.out; omega
                      case rel => exact ⟨(wrap64 (x9_4 - 16)), (wrap64 (x77_4 + 1)), (by first | rfl | (simp; done) | (simp [*]; done) | (simp; exact (by intro l_; cases l_ <;> rfl : ∀ l_ : List UInt8, l_.isEmpty = !(l_ != [])) _)), (by first | rfl | (simp; done) | (simp [*]; done) | (simp; exact (by intro l_; cases l_ <;> rfl : ∀ l_ : List UInt8, l_.isEmpty = !(l_ != [])) _)), H', ⟨by have := HJ1.out; have := HK2.out; have := HK3.out; have := HK4.out; omega⟩, ⟨kP BK244⟩, ⟨kP BK256⟩, ⟨bB⟩⟩
                     ·rw [if_neg c47] at H
                      have c47b0 : (((rdOf ByteArray.empty l0_1 (rd ((rd_T40 l0_0 x68_3).f4) x77_4)).size : Int) == (ji46)) = false := beq_eq_false_iff_ne.mpr c47
                      have c47b1 : (((rdOf ByteArray.empty l0_1 (rd ((rd_T40 l0_0 x68_3).f4) x77_4)).size : Int) != (ji46)) = true := bne_iff_ne.mpr c47
                      obtain rfl := Option.some.inj H
                      have p257 : 0 ≤ (x77_4 : Int) := dT
                      have q257 : x77_4 < (((rd_T40 l0_0 x68_3).f4).length : Int) := dT
                      obtain ⟨ad257, e257, hx257_0⟩ := Kd.at_int HR255_4.out x77_4 p257 q257
                      cases e257
                      replace hx257_0 := (HB.out.cell (World.block_lt_of_cell? w _ hx257_0)).trans hx257_0
                      replace p257 := eq_true p257
                      replace q257 := eq_true q257
                      have hnb50 := NB244_256.out
                      have hnc50 := NB256_244.out
                      have hcz51_0 := cZ0 BK244
                      have hcz51_1 := cZ1 BK244
                      have hfz51_0 := fZ BK244 0
                      have hfz51_1 := fZ BK244 1
                      have p258 : 0 ≤ ((rd ((rd_T40 l0_0 x68_3).f4) x77_4) : Int) := dT
                      have q258 : (rd ((rd_T40 l0_0 x68_3).f4) x77_4) < (l0_1.length : Int) := dT
                      obtain ⟨ad258, e258, hx258_0⟩ := Kd.at_string HR0_1.out (rd ((rd_T40 l0_0 x68_3).f4) x77_4) p258 q258
                      cases e258
                      replace hx258_0 := (HB.out.cell (World.block_lt_of_cell? w _ hx258_0)).trans hx258_0
                      replace p258 := eq_true p258
                      replace q258 := eq_true q258
                      go_wp2
                      go_ret
                      exact ⟨by first | rfl | (simp [errW_none, errW_some] <;> rfl) | (simp only [← hji46]; first | rfl | (simp [errW_none, errW_some] <;> rfl)) | (simp [*, errW_none, errW_some] <;> rfl) | (simp; exact (by intro l_; cases l_ <;> rfl : ∀ l_ : List UInt8, l_.isEmpty = !(l_ != [])) _), bB⟩
                    ·rw [if_neg c45] at H
                     exact absurd H (by simp)
                   ·rw [if_neg c44] at H
                    exact absurd H (by simp)
                  ·rw [if_neg c43] at H
                   exact absurd H (by simp)
                 ·rw [if_neg c42] at H
                  exact absurd H (by simp)
                ·rw [if_neg c41] at H
                 have c41b0 : decide (x77_4 < (((rd_T40 l0_0 x68_3).f4).length : Int)) = false := decide_eq_false c41
                 clear c41
                 have H' := aM H
                 clear H
                 go_wp2
                 go_roundg k4
                 case measure => have := HJ1.out; have := HK2.out; have := HK3.out; have := HK4.out; omega
                 case rel => exact ⟨(wrap64 (x68_3 + 1)), (by first | rfl | (simp; done) | (simp [*]; done) | (simp; exact (by intro l_; cases l_ <;> rfl : ∀ l_ : List UInt8, l_.isEmpty = !(l_ != [])) _)), H', ⟨by have := HJ1.out; have := HK2.out; have := HK3.out; have := HK4.out; omega⟩, ⟨kP BK244⟩, ⟨bB⟩⟩
             ·rw [if_neg c37] at H
              exact absurd H (by simp)
            ·rw [if_neg c36] at H
             exact absurd H (by simp)
           ·rw [if_neg c35] at H
            have c35b0 : decide (x68_3 < (l0_0.length : Int)) = false := decide_eq_false c35
            clear c35
            obtain rfl := Option.some.inj H
            go_wp2
            go_ret
            exact ⟨eW, bB⟩
     ·replace c18 := Bool.eq_false_iff.mpr c18
      subst c18
      rw [if_neg (show ¬ (false = true) by decide)] at H
      obtain rfl := Option.some.inj H
      have hcz52_0 := cZ0 BK244
      have hcz52_1 := cZ1 BK244
      have hfz52_0 := fZ BK244 0
      have hfz52_1 := fZ BK244 1
      go_wp2_with (first | ((with_reducible refine gate_callee (f := 24) rfl ?_); refine gL (some 34) Try.func24 #[.slice A0_0 l0_0.length c0_0, .func (.func 25) #[] #[]] ?_; (with_reducible refine (slices_ContainsFunc_ShapeOk_1.calls kj1 _ _ l0_0  false _ ?side1 ?side2 A13.out).mono ?_); (case side1 => exact cS HR0_0 HB); (case side2 => exact HC0_0.out); rintro e w53 ⟨rfl, hb⟩; refine ⟨_, rfl, ?_⟩; have n_ := aI (kB BK244 hb) (sB HB hb); clear BK244 HB; obtain ⟨BK244, HB⟩ := n_; (try clear hb); have hcz54_0 := cZ0 BK244; have hcz54_1 := cZ1 BK244; have hfz54_0 := fZ BK244 0; have hfz54_1 := fZ BK244 1) | ((with_reducible refine gate_callee (f := 27) rfl ?_); refine gL (some 37) Try.func27 #[.agg #[.slice A0_0 l0_0.length c0_0, .slice A0_1 l0_1.length c0_1]] ?_; (with_reducible refine (impl_owners.calls kj1 _ _ l0_0 _ _ l0_1 t249 false _ ?side1 ?side2 ?side3 ?side4 A17.out).mono ?_); (case side1 => exact cS HR0_0 HB); (case side2 => exact HC0_0.out); (case side3 => exact cS HR0_1 HB); (case side4 => exact HC0_1.out); rintro e w55 ⟨v250, rfl, ho0, hb⟩; refine ⟨_, rfl, ?_⟩; have n_ := aI (lR HB ho0) (aI (kB BK244 hb) (sB HB hb)); clear BK244 HB; obtain ⟨HO251, BK244, HB⟩ := n_; (try clear hb ho0)))
      go_ret
      exact ⟨eW, bB⟩

end Go.Proofs.Ytapliilimfgdjaa.PFnExactFreeOf
