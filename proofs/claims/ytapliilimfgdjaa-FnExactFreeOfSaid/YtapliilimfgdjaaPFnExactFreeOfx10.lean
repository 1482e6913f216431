-- Written by xprint.py, a program of this session over the kit's print. Not trusted: Lean checks it.
import Derived.Test.YtapliilimfgdjaaPFnExactFreeOfx0
import Derived.Test.YtapliilimfgdjaaPFnExactFreeOfx1
import Derived.Test.YtapliilimfgdjaaPFnExactFreeOfx2
import Derived.Test.YtapliilimfgdjaaPFnExactFreeOfx6
import Derived.Test.YtapliilimfgdjaaPFnExactFreeOfx8
import Derived.Test.YtapliilimfgdjaaPFnExactFreeOfx9
namespace Go.Proofs.Ytapliilimfgdjaa.PFnExactFreeOf
open Go.RowKit Go.Proofs.YtapliilimfgdjaaW.PrintWords Go.Proofs.YtapliilimfgdjaaW.PrintLast Go.Proofs.YtapliilimfgdjaaW.PrintMore
attribute [local go_sem] max2_int min2_int max_two min_two max_three min_three max_four min_four   -- for this text's walks alone
set_option linter.unusedVariables false
set_option linter.unusedSimpArgs false

/-! ### impl_FreeOf: function 14 -/
def impl_FreeOf.l0 : Nat → Int → List Int → Int → Int → Option (Int)
 | 0, _, _, _, _ => none
 | k + 1, x5, x16, x17, x18 => if x18 < x17 then (if 0 ≤ x18 then (if x18 < (x16.length : Int) then (if (rd x16 x18) < 0 then (impl_FreeOf.l0 k (wrap64 (x5 + 1)) x16 x17 (wrap64 (x18 + 1))) else (impl_FreeOf.l0 k x5 x16 x17 (wrap64 (x18 + 1)))) else (none)) else (none)) else (some x5)
def impl_FreeOf.f (k : Nat) (l0_0 : List (S40)) (l0_1 : List ByteArray) : Option (Int) := (impl_ShapeOk.f k l0_0 l0_1).bind fun t260 => (if t260 = true then ((impl_owners.f k l0_0 l0_1).bind fun bt261 => (impl_FreeOf.l0 k 0 bt261.1 (bt261.1.length : Int) 0)) else (some 0))
theorem impl_FreeOf.mono_l : ∀ k, (∀ y0 y1 y2 y3, LeO (impl_FreeOf.l0 k y0 y1 y2 y3) (impl_FreeOf.l0 (k + 1) y0 y1 y2 y3))
 | 0 => fun _ _ _ _ r h => by simp [impl_FreeOf.l0] at h
 | k + 1 => by
  have ih0 := impl_FreeOf.mono_l k
  ·intro y0 y1 y2 y3
   unfold impl_FreeOf.l0
   have m0_ := @impl_ShapeOk.mono
   have m1_ := @impl_owners.mono
   exact mM
theorem impl_FreeOf.mono : ∀ a0 a1 k, LeO (impl_FreeOf.f k a0 a1) (impl_FreeOf.f (k + 1) a0 a1) := by
 intro a0 a1 k
 have ih0 := impl_FreeOf.mono_l k
 unfold impl_FreeOf.f
 have m0_ := @impl_ShapeOk.mono
 have m1_ := @impl_owners.mono
 exact mM
set_option maxHeartbeats 8000000 in
set_option maxRecDepth 100000 in
theorem impl_FreeOf.calls (k : Nat) (A0_0 : Option Addr) (c0_0 : Nat) (l0_0 : List (S40)) (A0_1 : Option Addr) (c0_1 : Nat) (l0_1 : List ByteArray) (r : Int) (w : World) (hr0_0 : Kd.C k40 w A0_0 l0_0.length l0_0) (hc0_0 : l0_0.length ≤ c0_0) (hr0_1 : Kd.C Kd.string w A0_1 l0_1.length l0_1) (hc0_1 : l0_1.length ≤ c0_1) (h : impl_FreeOf.f k l0_0 l0_1 = some r) :
  Calls Try.prog 14 #[.agg #[.slice A0_0 l0_0.length c0_0, .slice A0_1 l0_1.length c0_1]] w fun e w' => e = .returned (.int .i64 r) ∧ Below w.heap.size w w' := by
 have hu30 := Try.underlying30
 have HR0_0 := aM hr0_0
 have HC0_0 := aM hc0_0
 clear hr0_0 hc0_0
 have HR0_1 := aM hr0_1
 have HC0_1 := aM hc0_1
 clear hr0_1 hc0_1
 have HB := aM (Below.refl w.heap.size w)
 unfold impl_FreeOf.f at h
 have H := h
 clear h
 replace H := Option.bind_eq_some_iff.mp H
 obtain ⟨t260, A20, H⟩ := H
 try dsimp only at H
 have A2 := aM A20
 clear A20
 by_cases c3 : t260 = true
 ·subst c3
  rw [if_pos rfl] at H
  replace H := Option.bind_eq_some_iff.mp H
  obtain ⟨⟨t261, t264⟩, A40, H⟩ := H
  try dsimp only at H
  have A4 := aM A40
  clear A40
  have H' := aM H
  clear H
  go_enter Try.func14, Try.ntmps14
  go_wp2_with (first | ((with_reducible refine gate_dst (N := 1) rfl ?_); refine bE 1 #[.slice A0_0 l0_0.length c0_0, .slice A0_1 l0_1.length c0_1] 30 ?_; intro gb259 hg w5 hbox hb; have n_ := aI (sB HB hb) (aI (aM hbox) (aI (gE HB hg) (gE HB hg))); clear HB; obtain ⟨HB, BK259, GW259, GE259⟩ := n_; (try clear hb hbox hg); have hcz6_0 := cZ0 BK259; have hcz6_1 := cZ1 BK259; have hfz6_0 := fZ BK259 0; have hfz6_1 := fZ BK259 1) | ((with_reducible refine gate_callee (f := 9) rfl ?_); refine gL (some 9) Try.func9 #[.agg #[.slice A0_0 l0_0.length c0_0, .slice A0_1 l0_1.length c0_1]] ?_; (with_reducible refine (impl_ShapeOk.calls k _ _ l0_0 _ _ l0_1 true _ ?side1 ?side2 ?side3 ?side4 A2.out).mono ?_); (case side1 => exact cS HR0_0 HB); (case side2 => exact HC0_0.out); (case side3 => exact cS HR0_1 HB); (case side4 => exact HC0_1.out); rintro e w7 ⟨rfl, hb⟩; refine ⟨_, rfl, ?_⟩; have n_ := aI (kB BK259 hb) (sB HB hb); clear BK259 HB; obtain ⟨BK259, HB⟩ := n_; (try clear hb); have hcz8_0 := cZ0 BK259; have hcz8_1 := cZ1 BK259; have hfz8_0 := fZ BK259 0; have hfz8_1 := fZ BK259 1) | ((with_reducible refine gate_callee (f := 27) rfl ?_); refine gL (some 13) Try.func27 #[.agg #[.slice A0_0 l0_0.length c0_0, .slice A0_1 l0_1.length c0_1]] ?_; (with_reducible refine (impl_owners.calls k _ _ l0_0 _ _ l0_1 t261 t264 _ ?side1 ?side2 ?side3 ?side4 A4.out).mono ?_); (case side1 => exact cS HR0_0 HB); (case side2 => exact HC0_0.out); (case side3 => exact cS HR0_1 HB); (case side4 => exact HC0_1.out); rintro e w9 ⟨v262, rfl, ho0, hb⟩; refine ⟨_, rfl, ?_⟩; have n_ := aI (lR HB ho0) (aI (kB BK259 hb) (sB HB hb)); clear BK259 HB; obtain ⟨HO263, BK259, HB⟩ := n_; (try clear hb ho0); obtain ⟨Ao10, co10, eo10⟩ := Kd.R_slice HO263.out; subst eo10))
  go_loopg [5, 18] k (fun kq v5 v18 w' => ∃ (x5_1 : Int) (x18_1 : Int), v5 = .int .i64 x5_1 ∧ v18 = .int .i64 x18_1 ∧ Aside0 (impl_FreeOf.l0 kq x5_1 t261 (t261.length : Int) x18_1 = some r) ∧ Aside0 (kq ≤ k) ∧ Aside0 (Kd.R (Kd.int .i64) 3 w' w.heap.size (fun _ => True) (.slice Ao10 t261.length co10) t261) ∧ Aside0 (w'.heap[gb259]? = some (.cells #[(.slice A0_0 l0_0.length c0_0), (.slice A0_1 l0_1.length c0_1)] 30 (0, 0))) ∧ Aside0 (Below w.heap.size w w'))
  case atStart => exact ⟨(0), (0), (by first | rfl | (simp; done) | (simp [*]; done) | (simp; exact (by intro l_; cases l_ <;> rfl : ∀ l_ : List UInt8, l_.isEmpty = !(l_ != [])) _)), (by first | rfl | (simp; done) | (simp [*]; done) | (simp; exact (by intro l_; cases l_ <;> rfl : ∀ l_ : List UInt8, l_.isEmpty = !(l_ != [])) _)), H', ⟨Nat.le_refl _⟩, ⟨rP HO263.out⟩, ⟨kP BK259⟩, ⟨bB⟩⟩
  case round =>
   clear H'
   try clear c1
   try clear c2
   try clear p2
   try clear c3
   try clear c9
   try clear hcz6_0
   try clear hcz6_1
   try clear hcz8_0
   try clear hcz8_1
   try clear hfz6_0
   try clear hfz6_1
   try clear hfz8_0
   try clear hfz8_1
   obtain ⟨x5_1, x18_1, rfl, rfl, HA, HK1, HO_16, BK259, HB⟩ := hrel
   cases gk with
   | zero => exact absurd HA.out (by simp [impl_FreeOf.l0])
   | succ k1 =>
    have H := HA.out
    clear HA
    simp only [impl_FreeOf.l0] at H
    by_cases c11 : x18_1 < (t261.length : Int)
    ·rw [if_pos c11] at H
     have c11b0 : decide (x18_1 < (t261.length : Int)) = true := decide_eq_true c11
     clear c11
     by_cases c12 : 0 ≤ x18_1
     ·rw [if_pos c12] at H
      have c12b0 : decide (0 ≤ x18_1) = true := decide_eq_true c12
      clear c12
      by_cases c13 : x18_1 < (t261.length : Int)
      ·rw [if_pos c13] at H
       have c13b0 : decide (x18_1 < (t261.length : Int)) = true := decide_eq_true c13
       clear c13
       by_cases c14 : (rd t261 x18_1) < 0
       ·rw [if_pos c14] at H
        have c14b0 : decide ((rd t261 x18_1) < 0) = true := decide_eq_true c14
        clear c14
        have H' := aM H
        clear H
        have p265 : 0 ≤ (x18_1 : Int) := dT
        have q265 : x18_1 < (t261.length : Int) := dT
        obtain ⟨ad265, e265, hx265_0⟩ := Kd.at_int (Kd.R_reads' HO_16.out).2.2 x18_1 p265 q265
        cases e265
        replace p265 := eq_true p265
        replace q265 := eq_true q265
        go_wp2
        go_roundg k1
        case measure => have := HK1.out; omega
        case rel => exact ⟨(wrap64 (x5_1 + 1)), (wrap64 (x18_1 + 1)), (by first | rfl | (simp; done) | (simp [*]; done) | (simp; exact (by intro l_; cases l_ <;> rfl : ∀ l_ : List UInt8, l_.isEmpty = !(l_ != [])) _)), (by first | rfl | (simp; done) | (simp [*]; done) | (simp; exact (by intro l_; cases l_ <;> rfl : ∀ l_ : List UInt8, l_.isEmpty = !(l_ != [])) _)), H', ⟨by have := HK1.out; omega⟩, ⟨rP HO_16.out⟩, ⟨kP BK259⟩, ⟨bB⟩⟩
       ·rw [if_neg c14] at H
        have c14b0 : decide ((rd t261 x18_1) < 0) = false := decide_eq_false c14
        clear c14
        have H' := aM H
        clear H
        have p265 : 0 ≤ (x18_1 : Int) := dT
        have q265 : x18_1 < (t261.length : Int) := dT
        obtain ⟨ad265, e265, hx265_0⟩ := Kd.at_int (Kd.R_reads' HO_16.out).2.2 x18_1 p265 q265
        cases e265
        replace p265 := eq_true p265
        replace q265 := eq_true q265
        go_wp2
        go_roundg k1
        case measure => have := HK1.out; omega
        case rel => exact ⟨(x5_1), (wrap64 (x18_1 + 1)), (by first | rfl | (simp; done) | (simp [*]; done) | (simp; exact (by intro l_; cases l_ <;> rfl : ∀ l_ : List UInt8, l_.isEmpty = !(l_ != [])) _)), (by first | rfl | (simp; done) | (simp [*]; done) | (simp; exact (by intro l_; cases l_ <;> rfl : ∀ l_ : List UInt8, l_.isEmpty = !(l_ != [])) _)), H', ⟨by have := HK1.out; omega⟩, ⟨rP HO_16.out⟩, ⟨kP BK259⟩, ⟨bB⟩⟩
      ·rw [if_neg c13] at H
       exact absurd H (by simp)
     ·rw [if_neg c12] at H
      exact absurd H (by simp)
    ·rw [if_neg c11] at H
     have c11b0 : decide (x18_1 < (t261.length : Int)) = false := decide_eq_false c11
     clear c11
     obtain rfl := Option.some.inj H
     go_wp2
     go_ret
     exact ⟨eW, bB⟩
 replace c3 := Bool.eq_false_iff.mpr c3
 subst c3
 rw [if_neg (show ¬ (false = true) by decide)] at H
 obtain rfl := Option.some.inj H
 go_enter Try.func14, Try.ntmps14
 go_wp2_with (first | ((with_reducible refine gate_dst (N := 1) rfl ?_); refine bE 1 #[.slice A0_0 l0_0.length c0_0, .slice A0_1 l0_1.length c0_1] 30 ?_; intro gb259 hg w15 hbox hb; have n_ := aI (sB HB hb) (aI (aM hbox) (aI (gE HB hg) (gE HB hg))); clear HB; obtain ⟨HB, BK259, GW259, GE259⟩ := n_; (try clear hb hbox hg); have hcz16_0 := cZ0 BK259; have hcz16_1 := cZ1 BK259; have hfz16_0 := fZ BK259 0; have hfz16_1 := fZ BK259 1) | ((with_reducible refine gate_callee (f := 9) rfl ?_); refine gL (some 9) Try.func9 #[.agg #[.slice A0_0 l0_0.length c0_0, .slice A0_1 l0_1.length c0_1]] ?_; (with_reducible refine (impl_ShapeOk.calls k _ _ l0_0 _ _ l0_1 false _ ?side1 ?side2 ?side3 ?side4 A2.out).mono ?_); (case side1 => exact cS HR0_0 HB); (case side2 => exact HC0_0.out); (case side3 => exact cS HR0_1 HB); (case side4 => exact HC0_1.out); rintro e w17 ⟨rfl, hb⟩; refine ⟨_, rfl, ?_⟩; have n_ := aI (kB BK259 hb) (sB HB hb); clear BK259 HB; obtain ⟨BK259, HB⟩ := n_; (try clear hb)))
 go_ret
 exact ⟨eW, bB⟩

/-! ### laws_FnExactFreeOf: function 5 -/
def laws_FnExactFreeOf.f (k : Nat) (l0_0 : List (S53)) (l0_1 : List ByteArray) : Option (Bool) := (laws_szFs.f k l0_0 l0_1 1048576).bind fun t267 => (if t267 < 0 then (some true) else ((laws_toFs.f k l0_0 l0_1).bind fun bt268 => ((spec_FreeOf.f k bt268.1 bt268.2).bind fun t274 => ((laws_toFs.f k l0_0 l0_1).bind fun bt275 => ((impl_FreeOf.f k bt275.1 bt275.2).bind fun t282 => (if t282 = t274 then ((laws_toFs.f k l0_0 l0_1).bind fun bt283 => ((laws_eqFs.f k bt275.1 bt275.2 bt283.1 bt283.2).bind fun t289 => (if t289 = true then (some true) else (some false)))) else (some false)))))))
theorem laws_FnExactFreeOf.mono : ∀ a0 a1 k, LeO (laws_FnExactFreeOf.f k a0 a1) (laws_FnExactFreeOf.f (k + 1) a0 a1) := by
 intro a0 a1 k
 unfold laws_FnExactFreeOf.f
 have m0_ := @impl_FreeOf.mono
 have m1_ := @laws_eqFs.mono
 have m2_ := @laws_szFs.mono
 have m3_ := @laws_toFs.mono
 have m4_ := @spec_FreeOf.mono
 exact mM
set_option maxHeartbeats 8000000 in
set_option maxRecDepth 100000 in
theorem laws_FnExactFreeOf.calls (k : Nat) (A0_0 : Option Addr) (c0_0 : Nat) (l0_0 : List (S53)) (A0_1 : Option Addr) (c0_1 : Nat) (l0_1 : List ByteArray) (r : Bool) (w : World) (hr0_0 : Kd.C k53 w A0_0 l0_0.length l0_0) (hc0_0 : l0_0.length ≤ c0_0) (hr0_1 : Kd.C Kd.string w A0_1 l0_1.length l0_1) (hc0_1 : l0_1.length ≤ c0_1) (h : laws_FnExactFreeOf.f k l0_0 l0_1 = some r) :
  Calls Try.prog 5 #[.agg #[.slice A0_0 l0_0.length c0_0, .slice A0_1 l0_1.length c0_1]] w fun e w' => e = .returned (.bool r) ∧ Below w.heap.size w w' := by
 have hu25 := Try.underlying25
 have hu30 := Try.underlying30
 have HR0_0 := aM hr0_0
 have HC0_0 := aM hc0_0
 clear hr0_0 hc0_0
 have HR0_1 := aM hr0_1
 have HC0_1 := aM hc0_1
 clear hr0_1 hc0_1
 have HB := aM (Below.refl w.heap.size w)
 unfold laws_FnExactFreeOf.f at h
 have H := h
 clear h
 replace H := Option.bind_eq_some_iff.mp H
 obtain ⟨t267, A20, H⟩ := H
 try dsimp only at H
 have A2 := aM A20
 clear A20
 by_cases c3 : t267 < 0
 ·rw [if_pos c3] at H
  have c3b0 : decide (t267 < 0) = true := decide_eq_true c3
  clear c3
  obtain rfl := Option.some.inj H
  go_enter Try.func5, Try.ntmps5
  go_wp2_with (first | ((with_reducible refine gate_dst (N := 1) rfl ?_); refine bE 1 #[.slice A0_0 l0_0.length c0_0, .slice A0_1 l0_1.length c0_1] 25 ?_; intro gb266 hg w4 hbox hb; have n_ := aI (sB HB hb) (aI (aM hbox) (aI (gE HB hg) (gE HB hg))); clear HB; obtain ⟨HB, BK266, GW266, GE266⟩ := n_; (try clear hb hbox hg); have hcz5_0 := cZ0 BK266; have hcz5_1 := cZ1 BK266; have hfz5_0 := fZ BK266 0; have hfz5_1 := fZ BK266 1) | ((with_reducible refine gate_callee (f := 6) rfl ?_); refine gL (some 9) Try.func6 #[.agg #[.slice A0_0 l0_0.length c0_0, .slice A0_1 l0_1.length c0_1], .int .i64 1048576] ?_; (with_reducible refine (laws_szFs.calls k _ _ l0_0 _ _ l0_1 1048576 t267 _ ?side1 ?side2 ?side3 ?side4 A2.out).mono ?_); (case side1 => exact cS HR0_0 HB); (case side2 => exact HC0_0.out); (case side3 => exact cS HR0_1 HB); (case side4 => exact HC0_1.out); rintro e w6 ⟨rfl, hb⟩; refine ⟨_, rfl, ?_⟩; have n_ := aI (kB BK266 hb) (sB HB hb); clear BK266 HB; obtain ⟨BK266, HB⟩ := n_; (try clear hb)))
  go_ret
  exact ⟨eW, bB⟩
 rw [if_neg c3] at H
 have c3b0 : decide (t267 < 0) = false := decide_eq_false c3
 clear c3
 replace H := Option.bind_eq_some_iff.mp H
 obtain ⟨⟨t268, t271⟩, A70, H⟩ := H
 try dsimp only at H
 have A7 := aM A70
 clear A70
 replace H := Option.bind_eq_some_iff.mp H
 obtain ⟨t274, A80, H⟩ := H
 try dsimp only at H
 have A8 := aM A80
 clear A80
 replace H := Option.bind_eq_some_iff.mp H
 obtain ⟨⟨t275, t278⟩, A90, H⟩ := H
 try dsimp only at H
 have A9 := aM A90
 clear A90
 replace H := Option.bind_eq_some_iff.mp H
 obtain ⟨t282, A100, H⟩ := H
 try dsimp only at H
 have A10 := aM A100
 clear A100
 by_cases c11 : t282 = t274
 ·rw [if_pos c11] at H
  have c11b0 : (t282 == t274) = true := beq_iff_eq.mpr c11
  have c11b1 : (t282 != t274) = false := bne_eq_false_iff_eq.mpr c11
  clear c11
  replace H := Option.bind_eq_some_iff.mp H
  obtain ⟨⟨t283, t286⟩, A120, H⟩ := H
  try dsimp only at H
  have A12 := aM A120
  clear A120
  replace H := Option.bind_eq_some_iff.mp H
  obtain ⟨t289, A130, H⟩ := H
  try dsimp only at H
  have A13 := aM A130
  clear A130
  by_cases c14 : t289 = true
  ·subst c14
   rw [if_pos rfl] at H
   obtain rfl := Option.some.inj H
   go_enter Try.func5, Try.ntmps5
   try go_wp2_with (first | ((with_reducible refine gate_dst (N := 1) rfl ?_); refine bE 1 #[.slice A0_0 l0_0.length c0_0, .slice A0_1 l0_1.length c0_1] 25 ?_; intro gb266 hg w15 hbox hb; have n_ := aI (sB HB hb) (aI (aM hbox) (aI (gE HB hg) (gE HB hg))); clear HB; obtain ⟨HB, BK266, GW266, GE266⟩ := n_; (try clear hb hbox hg); have hcz16_0 := cZ0 BK266; have hcz16_1 := cZ1 BK266; have hfz16_0 := fZ BK266 0; have hfz16_1 := fZ BK266 1) | ((with_reducible refine gate_callee (f := 6) rfl ?_); refine gL (some 9) Try.func6 #[.agg #[.slice A0_0 l0_0.length c0_0, .slice A0_1 l0_1.length c0_1], .int .i64 1048576] ?_; (with_reducible refine (laws_szFs.calls k _ _ l0_0 _ _ l0_1 1048576 t267 _ ?side1 ?side2 ?side3 ?side4 A2.out).mono ?_); (case side1 => exact cS HR0_0 HB); (case side2 => exact HC0_0.out); (case side3 => exact cS HR0_1 HB); (case side4 => exact HC0_1.out); rintro e w17 ⟨rfl, hb⟩; refine ⟨_, rfl, ?_⟩; have n_ := aI (kB BK266 hb) (sB HB hb); clear BK266 HB; obtain ⟨BK266, HB⟩ := n_; (try clear hb); have hcz18_0 := cZ0 BK266; have hcz18_1 := cZ1 BK266; have hfz18_0 := fZ BK266 0; have hfz18_1 := fZ BK266 1) | ((with_reducible refine gate_callee (f := 8) rfl ?_); refine gL (some 13) Try.func8 #[.agg #[.slice A0_0 l0_0.length c0_0, .slice A0_1 l0_1.length c0_1]] ?_; (with_reducible refine (laws_toFs.calls k _ _ l0_0 _ _ l0_1 t268 t271 _ ?side1 ?side2 ?side3 ?side4 A7.out).mono ?_); (case side1 => exact cS HR0_0 HB); (case side2 => exact HC0_0.out); (case side3 => exact cS HR0_1 HB); (case side4 => exact HC0_1.out); rintro e w19 ⟨v269, v272, rfl, ho0, ho1, hb⟩; refine ⟨_, rfl, ?_⟩; have n_ := aI (aM (Kd.S_lower ho0 (zB HB))) (aI (lR HB ho1) (aI (kB BK266 hb) (sB HB hb))); clear BK266 HB; obtain ⟨HO270, HO273, BK266, HB⟩ := n_; (try clear hb ho0 ho1); obtain ⟨Ao20, co20, eo20⟩ := Kd.S_slice HO270.out; subst eo20; obtain ⟨Ao21, co21, eo21⟩ := Kd.R_slice HO273.out; subst eo21) | ((with_reducible refine gate_callee (f := 13) rfl ?_); refine gL (some 14) Try.func13 #[.agg #[.slice Ao20 t268.length co20, .slice Ao21 t271.length co21]] ?_; (with_reducible refine (spec_FreeOf.calls k _ _ t268 _ _ t271 t274 _ ?side1 ?side2 ?side3 ?side4 A8.out).mono ?_); (case side1 => repeat (first | exact (Kd.S_reads' HO270.out).2.2 | (with_reducible refine Kd.C_alloc ?_ _) | (with_reducible refine Kd.C_drewN ?_ _) | (with_reducible refine Kd.C_drew ?_))); (case side2 => exact (Kd.S_reads' HO270.out).2.1); (case side3 => exact cR HO273); (case side4 => exact (Kd.R_reads' HO273.out).2.1); rintro e w22 ⟨rfl, hb⟩; refine ⟨_, rfl, ?_⟩; have n_ := aI (aM (Kd.S_below (by (with_reducible repeat (first | apply Kd.S_alloc | apply Kd.S_drewN | apply Kd.S_drew)); exact HO270.out) hb)) (aI (rB HO273 hb) (aI (kB BK266 hb) (sB HB hb))); clear HO270 HO273 BK266 HB; obtain ⟨HO270, HO273, BK266, HB⟩ := n_; (try clear hb); have hcz23_0 := cZ0 BK266; have hcz23_1 := cZ1 BK266; have hfz23_0 := fZ BK266 0; have hfz23_1 := fZ BK266 1) | ((with_reducible refine gate_callee (f := 8) rfl ?_); refine gL (some 16) Try.func8 #[.agg #[.slice A0_0 l0_0.length c0_0, .slice A0_1 l0_1.length c0_1]] ?_; (with_reducible refine (laws_toFs.calls k _ _ l0_0 _ _ l0_1 t275 t278 _ ?side1 ?side2 ?side3 ?side4 A9.out).mono ?_); (case side1 => exact cS HR0_0 HB); (case side2 => exact HC0_0.out); (case side3 => exact cS HR0_1 HB); (case side4 => exact HC0_1.out); rintro e w24 ⟨v276, v279, rfl, ho0, ho1, hb⟩; refine ⟨_, rfl, ?_⟩; have n_ := aI (aM (Kd.S_elder' (by (with_reducible repeat (first | apply Kd.S_alloc | apply Kd.S_drewN | apply Kd.S_drew)); exact HO270.out) (Kd.S_base ho0) hb)) (aI (eR HO273 ho1 hb) (aI (aM (Kd.S_lower (Kd.S_new' ho0 (Kd.S_lt (by (with_reducible repeat (first | apply Kd.S_alloc | apply Kd.S_drewN | apply Kd.S_drew)); exact HO270.out))) (zB HB))) (aI (aM (Kd.R_lower (Kd.R_new' ho1 (rL HO273)) (zB HB))) (aI (kB BK266 hb) (sB HB hb))))); clear HO270 HO273 BK266 HB; obtain ⟨HO270, HO273, HO277, HO280, BK266, HB⟩ := n_; (try clear hb ho0 ho1)) | ((with_reducible refine gate_dst (N := 5) rfl ?_); refine bE 5 #[.slice none 0 0, .slice none 0 0] 30 ?_; intro gb281 hg w25 hbox hb; have n_ := aI (aM (Kd.S_below (by (with_reducible repeat (first | apply Kd.S_alloc | apply Kd.S_drewN | apply Kd.S_drew)); exact HO270.out) hb)) (aI (rB HO273 hb) (aI (aM (Kd.S_below (by (with_reducible repeat (first | apply Kd.S_alloc | apply Kd.S_drewN | apply Kd.S_drew)); exact HO277.out) hb)) (aI (rB HO280 hb) (aI (kB BK266 hb) (aI (sB HB hb) (aI (aM hbox) (aI (gE HB hg) (aI (gE HB hg) (aI (nL BK266 hg) (nG BK266 hg)))))))))); clear HO270 HO273 HO277 HO280 BK266 HB; obtain ⟨HO270, HO273, HO277, HO280, BK266, HB, BK281, GW281, GE281, NB266_281, NB281_266⟩ := n_; (try clear hb hbox hg); obtain ⟨Ao26, co26, eo26⟩ := Kd.S_slice HO277.out; subst eo26; have hnb27 := NB281_266.out; have hnc27 := NB266_281.out; have hcz28_0 := cZ0 BK281; have hcz28_1 := cZ1 BK281; have hfz28_0 := fZ BK281 0; have hfz28_1 := fZ BK281 1; obtain ⟨Ao29, co29, eo29⟩ := Kd.R_slice HO280.out; subst eo29) | ((with_reducible refine gate_callee (f := 14) rfl ?_); refine gL (some 18) Try.func14 #[.agg #[.slice Ao26 t275.length co26, .slice Ao29 t278.length co29]] ?_; (with_reducible refine (impl_FreeOf.calls k _ _ t275 _ _ t278 t282 _ ?side1 ?side2 ?side3 ?side4 A10.out).mono ?_); (case side1 => refine (Kd.S_reads' (e := 40) (base := w.heap.size) (ok := fun k_ => (True ∧ some k_ ≠ (.slice Ao20 t268.length co20 : Value).ownBlock)) (n := t275.length) (c := co26) ?_).2.2; exact (by (with_reducible repeat (first | apply Kd.S_alloc | apply Kd.S_drewN | apply Kd.S_drew)); exact (Kd.S_mono (Kd.S_far (p := ⟨gb281, 1, none⟩) (Kd.S_far (p := ⟨gb281, 0, none⟩) (Kd.S_types HO277.out BK281.out (by decide)) (fun _ hk => hk.2) (.slice Ao26 t275.length co26)) (fun _ hk => hk.2) (.slice Ao29 t278.length co29)) (fun _ h_ => h_.1)))); (case side2 => exact (Kd.S_reads' HO277.out).2.1); (case side3 => refine (Kd.R_reads' (e := 9) (base := w.heap.size) (ok := fun k_ => (True ∧ some k_ ≠ (.slice Ao21 t271.length co21 : Value).ownBlock)) (n := t278.length) (c := co29) ?_).2.2; exact (rP (Kd.R_mono (Kd.R_far (p := ⟨gb281, 1, none⟩) (Kd.R_far (p := ⟨gb281, 0, none⟩) (Kd.R_types HO280.out BK281.out (by decide)) (fun _ hk => hk.2) (.slice Ao26 t275.length co26)) (fun _ hk => hk.2) (.slice Ao29 t278.length co29)) (fun _ h_ => h_.1)))); (case side4 => exact (Kd.R_reads' HO280.out).2.1); rintro e w30 ⟨rfl, hb⟩; refine ⟨_, rfl, ?_⟩; have n_ := aI (aM (Kd.S_below (by (with_reducible repeat (first | apply Kd.S_alloc | apply Kd.S_drewN | apply Kd.S_drew)); exact (Kd.S_mono (Kd.S_far (p := ⟨gb281, 1, none⟩) (Kd.S_far (p := ⟨gb281, 0, none⟩) (Kd.S_types HO270.out BK281.out (by decide)) (fun _ hk => hk.2) (.slice Ao26 t275.length co26)) (fun _ hk => hk.2) (.slice Ao29 t278.length co29)) (fun _ h_ => h_.1))) hb)) (aI (aM (Kd.R_below (rP (Kd.R_mono (Kd.R_far (p := ⟨gb281, 1, none⟩) (Kd.R_far (p := ⟨gb281, 0, none⟩) (Kd.R_types HO273.out BK281.out (by decide)) (fun _ hk => hk.2) (.slice Ao26 t275.length co26)) (fun _ hk => hk.2) (.slice Ao29 t278.length co29)) (fun _ h_ => h_.1))) hb)) (aI (aM (Kd.S_below (by (with_reducible repeat (first | apply Kd.S_alloc | apply Kd.S_drewN | apply Kd.S_drew)); exact (Kd.S_mono (Kd.S_far (p := ⟨gb281, 1, none⟩) (Kd.S_far (p := ⟨gb281, 0, none⟩) (Kd.S_types HO277.out BK281.out (by decide)) (fun _ hk => hk.2) (.slice Ao26 t275.length co26)) (fun _ hk => hk.2) (.slice Ao29 t278.length co29)) (fun _ h_ => h_.1))) hb)) (aI (aM (Kd.R_below (rP (Kd.R_mono (Kd.R_far (p := ⟨gb281, 1, none⟩) (Kd.R_far (p := ⟨gb281, 0, none⟩) (Kd.R_types HO280.out BK281.out (by decide)) (fun _ hk => hk.2) (.slice Ao26 t275.length co26)) (fun _ hk => hk.2) (.slice Ao29 t278.length co29)) (fun _ h_ => h_.1))) hb)) (aI (kB BK266 hb) (aI (aM (blk_below (g := gb281) (o := .cells #[.slice Ao26 t275.length co26, .slice Ao29 t278.length co29] 30 (0, 0)) (by (with_reducible repeat (first | apply bN | apply bD | apply bA)); refine blk_put (cs := #[.slice Ao26 t275.length co26, .slice none 0 0]) ?_ 1 _ rfl; (with_reducible repeat (first | apply bN | apply bD | apply bA)); refine blk_put (cs := #[.slice none 0 0, .slice none 0 0]) ?_ 0 _ rfl; (with_reducible repeat (first | apply bN | apply bD | apply bA)); exact BK281.out) hb)) (sB HB hb)))))); clear HO270 HO273 HO277 HO280 BK266 BK281 HB; obtain ⟨HO270, HO273, HO277, HO280, BK266, BK281, HB⟩ := n_; (try clear hb)))
   have n_ := aI (aM (Kd.S_drew HO270.out)) (aI (aM (Kd.R_drew HO273.out)) (aI (aM (Kd.S_drew HO277.out)) (aI (aM (Kd.R_drew HO280.out)) (aI (aM (blk_drew BK266.out)) (aI (aM (blk_drew BK281.out)) (aM (below_drew1 HB.out)))))))
   clear HO270 HO273 HO277 HO280 BK266 BK281 HB
   obtain ⟨HO270, HO273, HO277, HO280, BK266, BK281, HB⟩ := n_
   refine start_ (n := 5) (S := fun w' => w'.cell? ⟨gb281, 0, none⟩ = some (.slice Ao26 t275.length co26) ∧ w'.cell? ⟨gb281, 1, none⟩ = some (.slice Ao29 t278.length co29) ∧ w'.cell? ⟨gb266, 0, none⟩ = some (.slice A0_0 l0_0.length c0_0) ∧ w'.cell? ⟨gb266, 1, none⟩ = some (.slice A0_1 l0_1.length c0_1)) (ds := []) #[tF, tF, tF, tF, tF] (by kernel_rfl) rfl rfl ⟨(blk_cell BK281.out 0).trans rfl, (blk_cell BK281.out 1).trans rfl, (blk_cell BK266.out 0).trans rfl, (blk_cell BK266.out 1).trans rfl⟩ (fun hHeld => ?_)
   generalize w30.drew = w31 at HO270 HO273 HO277 HO280 BK266 BK281 HB hHeld ⊢
   refine take_ (i := 0) (N := some 22) (v := ?_) (a' := ?_) #[tT, tF, tF, tF, tF] rfl rfl (by kernel_rfl) (fun _ _ _ h => h) (Or.inl ⟨by rfl, ?_⟩) hHeld ?_ ?_
   rotate_left
   ·rintro w' ⟨s0, s1, s2, s3⟩
    go_simp
    with_reducible rfl
   rotate_left
   ·simp only [Act.put, List.setIfInBounds_toArray, List.set_cons_zero, List.set_cons_succ, i64_w, i32_w]
    rfl
   refine take_ (i := 1) (N := some 23) (v := ?_) (a' := ?_) #[tT, tT, tF, tF, tF] rfl rfl (by kernel_rfl) (fun _ _ _ h => h) (Or.inl ⟨by rfl, ?_⟩) hHeld ?_ ?_
   rotate_left
   ·rintro w' ⟨s0, s1, s2, s3⟩
    go_simp
    with_reducible rfl
   rotate_left
   ·simp only [Act.put, List.setIfInBounds_toArray, List.set_cons_zero, List.set_cons_succ, i64_w, i32_w]
    rfl
   refine one_ (i := 2) (N := some 24) #[tT, tT, tT, tF, tF] rfl rfl (by kernel_rfl) (by decide) (fun K hK => ?_)
   refine goes_ Try.func8 (by kernel_rfl) rfl #[.agg #[.slice A0_0 l0_0.length c0_0, .slice A0_1 l0_1.length c0_1]] (by rfl) rfl rfl (by (try simp only [List.map_toArray, List.map_cons, List.map_nil]); first | done | rfl | (simp only [List.length_drop, List.length_take]; rfl)) ?_
   with_reducible refine (laws_toFs.calls k _ _ l0_0 _ _ l0_1 t283 t286 _ ?side1 ?side2 ?side3 ?side4 A12.out).mono ?_
   (case side1 => exact cS HR0_0 HB)
   (case side2 => exact HC0_0.out)
   (case side3 => exact cS HR0_1 HB)
   (case side4 => exact HC0_1.out)
   rintro e w32 ⟨v284, v287, rfl, ho0, ho1, hb⟩
   refine ⟨_, rfl, ?_⟩
   have n_ := aI (aM (Kd.S_elder' (by (with_reducible repeat (first | apply Kd.S_alloc | apply Kd.S_drewN | apply Kd.S_drew)); exact HO270.out) (Kd.S_base ho0) hb)) (aI (eR HO273 ho1 hb) (aI (aM (Kd.S_elder' (by (with_reducible repeat (first | apply Kd.S_alloc | apply Kd.S_drewN | apply Kd.S_drew)); exact HO277.out) (Kd.S_base ho0) hb)) (aI (eR HO280 ho1 hb) (aI (aM (Kd.S_lower (Kd.S_new' (Kd.S_new' ho0 (Kd.S_lt (by (with_reducible repeat (first | apply Kd.S_alloc | apply Kd.S_drewN | apply Kd.S_drew)); exact HO270.out))) (Kd.S_lt (by (with_reducible repeat (first | apply Kd.S_alloc | apply Kd.S_drewN | apply Kd.S_drew)); exact HO277.out))) (zB HB))) (aI (aM (Kd.R_lower (Kd.R_new' (Kd.R_new' ho1 (rL HO273)) (rL HO280)) (zB HB))) (aI (kB BK266 hb) (aI (kB BK281 hb) (sB HB hb))))))))
   clear HO270 HO273 HO277 HO280 BK266 BK281 HB
   obtain ⟨HO270, HO273, HO277, HO280, HO285, HO288, BK266, BK281, HB⟩ := n_
   (try clear hb)
   (try clear hb2)
   (try clear hk)
   (try clear hi)
   (try clear ho0)
   (try clear ho1)
   obtain ⟨Ao33, co33, eo33⟩ := Kd.S_slice HO285.out
   (first | subst eo33 | (injection eo33 with f1_ f2_ f3_; have f4_ := f1_.symm; have f5_ := f3_.symm; clear f1_ f2_ f3_; subst f4_; subst f5_))
   obtain ⟨Ao34, co34, eo34⟩ := Kd.R_slice HO288.out
   (first | subst eo34 | (injection eo34 with f1_ f2_ f3_; have f4_ := f1_.symm; have f5_ := f3_.symm; clear f1_ f2_ f3_; subst f4_; subst f5_))
   refine hK.out _ _ ⟨(blk_cell BK281.out 0).trans rfl, (blk_cell BK281.out 1).trans rfl, (blk_cell BK266.out 0).trans rfl, (blk_cell BK266.out 1).trans rfl⟩ (fun hHeld => ?_)
   clear hK K
   refine norm_ (a' := ?_) ?_ ?_
   rotate_left
   ·show Act.put _ (some 24) _ = _
    simp only [Act.put, List.setIfInBounds_toArray, List.set_cons_zero, List.set_cons_succ, i64_w, i32_w]
    rfl
   refine one_ (i := 3) (N := some 25) #[tT, tT, tT, tT, tF] rfl rfl (by kernel_rfl) (by decide) (fun K hK => ?_)
   refine goes_ Try.func10 (by kernel_rfl) rfl #[.agg #[.slice Ao26 t275.length co26, .slice Ao29 t278.length co29], .agg #[.slice Ao33 t283.length co33, .slice Ao34 t286.length co34]] (by rfl) rfl rfl (by (try simp only [List.map_toArray, List.map_cons, List.map_nil]); first | done | rfl | (simp only [List.length_drop, List.length_take]; rfl)) ?_
   with_reducible refine (laws_eqFs.calls k _ _ t275 _ _ t278 _ _ t283 _ _ t286 true _ ?side1 ?side2 ?side3 ?side4 ?side5 ?side6 ?side7 ?side8 A13.out).mono ?_
   (case side1 => repeat (first | exact (Kd.S_reads' HO277.out).2.2 | (with_reducible refine Kd.C_alloc ?_ _) | (with_reducible refine Kd.C_drewN ?_ _) | (with_reducible refine Kd.C_drew ?_)))
   (case side2 => exact (Kd.S_reads' HO277.out).2.1)
   (case side3 => exact cR HO280)
   (case side4 => exact (Kd.R_reads' HO280.out).2.1)
   (case side5 => repeat (first | exact (Kd.S_reads' HO285.out).2.2 | (with_reducible refine Kd.C_alloc ?_ _) | (with_reducible refine Kd.C_drewN ?_ _) | (with_reducible refine Kd.C_drew ?_)))
   (case side6 => exact (Kd.S_reads' HO285.out).2.1)
   (case side7 => exact cR HO288)
   (case side8 => exact (Kd.R_reads' HO288.out).2.1)
   rintro e w35 ⟨rfl, hb⟩
   refine ⟨_, rfl, ?_⟩
   have n_ := aI (aM (Kd.S_below (by (with_reducible repeat (first | apply Kd.S_alloc | apply Kd.S_drewN | apply Kd.S_drew)); exact HO270.out) hb)) (aI (rB HO273 hb) (aI (aM (Kd.S_below (by (with_reducible repeat (first | apply Kd.S_alloc | apply Kd.S_drewN | apply Kd.S_drew)); exact HO277.out) hb)) (aI (rB HO280 hb) (aI (aM (Kd.S_below (by (with_reducible repeat (first | apply Kd.S_alloc | apply Kd.S_drewN | apply Kd.S_drew)); exact HO285.out) hb)) (aI (rB HO288 hb) (aI (kB BK266 hb) (aI (kB BK281 hb) (sB HB hb))))))))
   clear HO270 HO273 HO277 HO280 HO285 HO288 BK266 BK281 HB
   obtain ⟨HO270, HO273, HO277, HO280, HO285, HO288, BK266, BK281, HB⟩ := n_
   (try clear hb)
   (try clear hb2)
   (try clear hk)
   (try clear hi)
   refine hK.out _ _ ⟨(blk_cell BK281.out 0).trans rfl, (blk_cell BK281.out 1).trans rfl, (blk_cell BK266.out 0).trans rfl, (blk_cell BK266.out 1).trans rfl⟩ (fun hHeld => ?_)
   clear hK K
   refine norm_ (a' := ?_) ?_ ?_
   rotate_left
   ·show Act.put _ (some 25) _ = _
    simp only [Act.put, List.setIfInBounds_toArray, List.set_cons_zero, List.set_cons_succ, i64_w, i32_w]
    rfl
   refine pure_ (i := 4) (N := some 26) (v := ?_) (a' := ?_) #[tT, tT, tT, tT, tT] rfl rfl (by kernel_rfl) (fun _ _ _ h => h) (Or.inl ⟨by rfl, ?_⟩) ?_ ?_
   rotate_left
   ·intro w'
    go_simp
    with_reducible rfl
   rotate_left
   ·simp only [Act.put, List.setIfInBounds_toArray, List.set_cons_zero, List.set_cons_succ, i64_w, i32_w]
    rfl
   refine done_ (by kernel_rfl) ?_
   try go_wp2
   go_ret
   exact ⟨eW, bB⟩
  replace c14 := Bool.eq_false_iff.mpr c14
  subst c14
  rw [if_neg (show ¬ (false = true) by decide)] at H
  obtain rfl := Option.some.inj H
  go_enter Try.func5, Try.ntmps5
  try go_wp2_with (first | ((with_reducible refine gate_dst (N := 1) rfl ?_); refine bE 1 #[.slice A0_0 l0_0.length c0_0, .slice A0_1 l0_1.length c0_1] 25 ?_; intro gb266 hg w36 hbox hb; have n_ := aI (sB HB hb) (aI (aM hbox) (aI (gE HB hg) (gE HB hg))); clear HB; obtain ⟨HB, BK266, GW266, GE266⟩ := n_; (try clear hb hbox hg); have hcz37_0 := cZ0 BK266; have hcz37_1 := cZ1 BK266; have hfz37_0 := fZ BK266 0; have hfz37_1 := fZ BK266 1) | ((with_reducible refine gate_callee (f := 6) rfl ?_); refine gL (some 9) Try.func6 #[.agg #[.slice A0_0 l0_0.length c0_0, .slice A0_1 l0_1.length c0_1], .int .i64 1048576] ?_; (with_reducible refine (laws_szFs.calls k _ _ l0_0 _ _ l0_1 1048576 t267 _ ?side1 ?side2 ?side3 ?side4 A2.out).mono ?_); (case side1 => exact cS HR0_0 HB); (case side2 => exact HC0_0.out); (case side3 => exact cS HR0_1 HB); (case side4 => exact HC0_1.out); rintro e w38 ⟨rfl, hb⟩; refine ⟨_, rfl, ?_⟩; have n_ := aI (kB BK266 hb) (sB HB hb); clear BK266 HB; obtain ⟨BK266, HB⟩ := n_; (try clear hb); have hcz39_0 := cZ0 BK266; have hcz39_1 := cZ1 BK266; have hfz39_0 := fZ BK266 0; have hfz39_1 := fZ BK266 1) | ((with_reducible refine gate_callee (f := 8) rfl ?_); refine gL (some 13) Try.func8 #[.agg #[.slice A0_0 l0_0.length c0_0, .slice A0_1 l0_1.length c0_1]] ?_; (with_reducible refine (laws_toFs.calls k _ _ l0_0 _ _ l0_1 t268 t271 _ ?side1 ?side2 ?side3 ?side4 A7.out).mono ?_); (case side1 => exact cS HR0_0 HB); (case side2 => exact HC0_0.out); (case side3 => exact cS HR0_1 HB); (case side4 => exact HC0_1.out); rintro e w40 ⟨v269, v272, rfl, ho0, ho1, hb⟩; refine ⟨_, rfl, ?_⟩; have n_ := aI (aM (Kd.S_lower ho0 (zB HB))) (aI (lR HB ho1) (aI (kB BK266 hb) (sB HB hb))); clear BK266 HB; obtain ⟨HO270, HO273, BK266, HB⟩ := n_; (try clear hb ho0 ho1); obtain ⟨Ao41, co41, eo41⟩ := Kd.S_slice HO270.out; subst eo41; obtain ⟨Ao42, co42, eo42⟩ := Kd.R_slice HO273.out; subst eo42) | ((with_reducible refine gate_callee (f := 13) rfl ?_); refine gL (some 14) Try.func13 #[.agg #[.slice Ao41 t268.length co41, .slice Ao42 t271.length co42]] ?_; (with_reducible refine (spec_FreeOf.calls k _ _ t268 _ _ t271 t274 _ ?side1 ?side2 ?side3 ?side4 A8.out).mono ?_); (case side1 => repeat (first | exact (Kd.S_reads' HO270.out).2.2 | (with_reducible refine Kd.C_alloc ?_ _) | (with_reducible refine Kd.C_drewN ?_ _) | (with_reducible refine Kd.C_drew ?_))); (case side2 => exact (Kd.S_reads' HO270.out).2.1); (case side3 => exact cR HO273); (case side4 => exact (Kd.R_reads' HO273.out).2.1); rintro e w43 ⟨rfl, hb⟩; refine ⟨_, rfl, ?_⟩; have n_ := aI (aM (Kd.S_below (by (with_reducible repeat (first | apply Kd.S_alloc | apply Kd.S_drewN | apply Kd.S_drew)); exact HO270.out) hb)) (aI (rB HO273 hb) (aI (kB BK266 hb) (sB HB hb))); clear HO270 HO273 BK266 HB; obtain ⟨HO270, HO273, BK266, HB⟩ := n_; (try clear hb); have hcz44_0 := cZ0 BK266; have hcz44_1 := cZ1 BK266; have hfz44_0 := fZ BK266 0; have hfz44_1 := fZ BK266 1) | ((with_reducible refine gate_callee (f := 8) rfl ?_); refine gL (some 16) Try.func8 #[.agg #[.slice A0_0 l0_0.length c0_0, .slice A0_1 l0_1.length c0_1]] ?_; (with_reducible refine (laws_toFs.calls k _ _ l0_0 _ _ l0_1 t275 t278 _ ?side1 ?side2 ?side3 ?side4 A9.out).mono ?_); (case side1 => exact cS HR0_0 HB); (case side2 => exact HC0_0.out); (case side3 => exact cS HR0_1 HB); (case side4 => exact HC0_1.out); rintro e w45 ⟨v276, v279, rfl, ho0, ho1, hb⟩; refine ⟨_, rfl, ?_⟩; have n_ := aI (aM (Kd.S_elder' (by (with_reducible repeat (first | apply Kd.S_alloc | apply Kd.S_drewN | apply Kd.S_drew)); exact HO270.out) (Kd.S_base ho0) hb)) (aI (eR HO273 ho1 hb) (aI (aM (Kd.S_lower (Kd.S_new' ho0 (Kd.S_lt (by (with_reducible repeat (first | apply Kd.S_alloc | apply Kd.S_drewN | apply Kd.S_drew)); exact HO270.out))) (zB HB))) (aI (aM (Kd.R_lower (Kd.R_new' ho1 (rL HO273)) (zB HB))) (aI (kB BK266 hb) (sB HB hb))))); clear HO270 HO273 BK266 HB; obtain ⟨HO270, HO273, HO277, HO280, BK266, HB⟩ := n_; (try clear hb ho0 ho1)) | ((with_reducible refine gate_dst (N := 5) rfl ?_); refine bE 5 #[.slice none 0 0, .slice none 0 0] 30 ?_; intro gb281 hg w46 hbox hb; have n_ := aI (aM (Kd.S_below (by (with_reducible repeat (first | apply Kd.S_alloc | apply Kd.S_drewN | apply Kd.S_drew)); exact HO270.out) hb)) (aI (rB HO273 hb) (aI (aM (Kd.S_below (by (with_reducible repeat (first | apply Kd.S_alloc | apply Kd.S_drewN | apply Kd.S_drew)); exact HO277.out) hb)) (aI (rB HO280 hb) (aI (kB BK266 hb) (aI (sB HB hb) (aI (aM hbox) (aI (gE HB hg) (aI (gE HB hg) (aI (nL BK266 hg) (nG BK266 hg)))))))))); clear HO270 HO273 HO277 HO280 BK266 HB; obtain ⟨HO270, HO273, HO277, HO280, BK266, HB, BK281, GW281, GE281, NB266_281, NB281_266⟩ := n_; (try clear hb hbox hg); obtain ⟨Ao47, co47, eo47⟩ := Kd.S_slice HO277.out; subst eo47; have hnb48 := NB281_266.out; have hnc48 := NB266_281.out; have hcz49_0 := cZ0 BK281; have hcz49_1 := cZ1 BK281; have hfz49_0 := fZ BK281 0; have hfz49_1 := fZ BK281 1; obtain ⟨Ao50, co50, eo50⟩ := Kd.R_slice HO280.out; subst eo50) | ((with_reducible refine gate_callee (f := 14) rfl ?_); refine gL (some 18) Try.func14 #[.agg #[.slice Ao47 t275.length co47, .slice Ao50 t278.length co50]] ?_; (with_reducible refine (impl_FreeOf.calls k _ _ t275 _ _ t278 t282 _ ?side1 ?side2 ?side3 ?side4 A10.out).mono ?_); (case side1 => refine (Kd.S_reads' (e := 40) (base := w.heap.size) (ok := fun k_ => (True ∧ some k_ ≠ (.slice Ao41 t268.length co41 : Value).ownBlock)) (n := t275.length) (c := co47) ?_).2.2; exact (by (with_reducible repeat (first | apply Kd.S_alloc | apply Kd.S_drewN | apply Kd.S_drew)); exact (Kd.S_mono (Kd.S_far (p := ⟨gb281, 1, none⟩) (Kd.S_far (p := ⟨gb281, 0, none⟩) (Kd.S_types HO277.out BK281.out (by decide)) (fun _ hk => hk.2) (.slice Ao47 t275.length co47)) (fun _ hk => hk.2) (.slice Ao50 t278.length co50)) (fun _ h_ => h_.1)))); (case side2 => exact (Kd.S_reads' HO277.out).2.1); (case side3 => refine (Kd.R_reads' (e := 9) (base := w.heap.size) (ok := fun k_ => (True ∧ some k_ ≠ (.slice Ao42 t271.length co42 : Value).ownBlock)) (n := t278.length) (c := co50) ?_).2.2; exact (rP (Kd.R_mono (Kd.R_far (p := ⟨gb281, 1, none⟩) (Kd.R_far (p := ⟨gb281, 0, none⟩) (Kd.R_types HO280.out BK281.out (by decide)) (fun _ hk => hk.2) (.slice Ao47 t275.length co47)) (fun _ hk => hk.2) (.slice Ao50 t278.length co50)) (fun _ h_ => h_.1)))); (case side4 => exact (Kd.R_reads' HO280.out).2.1); rintro e w51 ⟨rfl, hb⟩; refine ⟨_, rfl, ?_⟩; have n_ := aI (aM (Kd.S_below (by (with_reducible repeat (first | apply Kd.S_alloc | apply Kd.S_drewN | apply Kd.S_drew)); exact (Kd.S_mono (Kd.S_far (p := ⟨gb281, 1, none⟩) (Kd.S_far (p := ⟨gb281, 0, none⟩) (Kd.S_types HO270.out BK281.out (by decide)) (fun _ hk => hk.2) (.slice Ao47 t275.length co47)) (fun _ hk => hk.2) (.slice Ao50 t278.length co50)) (fun _ h_ => h_.1))) hb)) (aI (aM (Kd.R_below (rP (Kd.R_mono (Kd.R_far (p := ⟨gb281, 1, none⟩) (Kd.R_far (p := ⟨gb281, 0, none⟩) (Kd.R_types HO273.out BK281.out (by decide)) (fun _ hk => hk.2) (.slice Ao47 t275.length co47)) (fun _ hk => hk.2) (.slice Ao50 t278.length co50)) (fun _ h_ => h_.1))) hb)) (aI (aM (Kd.S_below (by (with_reducible repeat (first | apply Kd.S_alloc | apply Kd.S_drewN | apply Kd.S_drew)); exact (Kd.S_mono (Kd.S_far (p := ⟨gb281, 1, none⟩) (Kd.S_far (p := ⟨gb281, 0, none⟩) (Kd.S_types HO277.out BK281.out (by decide)) (fun _ hk => hk.2) (.slice Ao47 t275.length co47)) (fun _ hk => hk.2) (.slice Ao50 t278.length co50)) (fun _ h_ => h_.1))) hb)) (aI (aM (Kd.R_below (rP (Kd.R_mono (Kd.R_far (p := ⟨gb281, 1, none⟩) (Kd.R_far (p := ⟨gb281, 0, none⟩) (Kd.R_types HO280.out BK281.out (by decide)) (fun _ hk => hk.2) (.slice Ao47 t275.length co47)) (fun _ hk => hk.2) (.slice Ao50 t278.length co50)) (fun _ h_ => h_.1))) hb)) (aI (kB BK266 hb) (aI (aM (blk_below (g := gb281) (o := .cells #[.slice Ao47 t275.length co47, .slice Ao50 t278.length co50] 30 (0, 0)) (by (with_reducible repeat (first | apply bN | apply bD | apply bA)); refine blk_put (cs := #[.slice Ao47 t275.length co47, .slice none 0 0]) ?_ 1 _ rfl; (with_reducible repeat (first | apply bN | apply bD | apply bA)); refine blk_put (cs := #[.slice none 0 0, .slice none 0 0]) ?_ 0 _ rfl; (with_reducible repeat (first | apply bN | apply bD | apply bA)); exact BK281.out) hb)) (sB HB hb)))))); clear HO270 HO273 HO277 HO280 BK266 BK281 HB; obtain ⟨HO270, HO273, HO277, HO280, BK266, BK281, HB⟩ := n_; (try clear hb)))
  have n_ := aI (aM (Kd.S_drew HO270.out)) (aI (aM (Kd.R_drew HO273.out)) (aI (aM (Kd.S_drew HO277.out)) (aI (aM (Kd.R_drew HO280.out)) (aI (aM (blk_drew BK266.out)) (aI (aM (blk_drew BK281.out)) (aM (below_drew1 HB.out)))))))
  clear HO270 HO273 HO277 HO280 BK266 BK281 HB
  obtain ⟨HO270, HO273, HO277, HO280, BK266, BK281, HB⟩ := n_
  refine start_ (n := 5) (S := fun w' => w'.cell? ⟨gb281, 0, none⟩ = some (.slice Ao47 t275.length co47) ∧ w'.cell? ⟨gb281, 1, none⟩ = some (.slice Ao50 t278.length co50) ∧ w'.cell? ⟨gb266, 0, none⟩ = some (.slice A0_0 l0_0.length c0_0) ∧ w'.cell? ⟨gb266, 1, none⟩ = some (.slice A0_1 l0_1.length c0_1)) (ds := []) #[tF, tF, tF, tF, tF] (by kernel_rfl) rfl rfl ⟨(blk_cell BK281.out 0).trans rfl, (blk_cell BK281.out 1).trans rfl, (blk_cell BK266.out 0).trans rfl, (blk_cell BK266.out 1).trans rfl⟩ (fun hHeld => ?_)
  generalize w51.drew = w52 at HO270 HO273 HO277 HO280 BK266 BK281 HB hHeld ⊢
  refine take_ (i := 0) (N := some 22) (v := ?_) (a' := ?_) #[tT, tF, tF, tF, tF] rfl rfl (by kernel_rfl) (fun _ _ _ h => h) (Or.inl ⟨by rfl, ?_⟩) hHeld ?_ ?_
  rotate_left
  ·rintro w' ⟨s0, s1, s2, s3⟩
   go_simp
   with_reducible rfl
  rotate_left
  ·simp only [Act.put, List.setIfInBounds_toArray, List.set_cons_zero, List.set_cons_succ, i64_w, i32_w]
   rfl
  refine take_ (i := 1) (N := some 23) (v := ?_) (a' := ?_) #[tT, tT, tF, tF, tF] rfl rfl (by kernel_rfl) (fun _ _ _ h => h) (Or.inl ⟨by rfl, ?_⟩) hHeld ?_ ?_
  rotate_left
  ·rintro w' ⟨s0, s1, s2, s3⟩
   go_simp
   with_reducible rfl
  rotate_left
  ·simp only [Act.put, List.setIfInBounds_toArray, List.set_cons_zero, List.set_cons_succ, i64_w, i32_w]
   rfl
  refine one_ (i := 2) (N := some 24) #[tT, tT, tT, tF, tF] rfl rfl (by kernel_rfl) (by decide) (fun K hK => ?_)
  refine goes_ Try.func8 (by kernel_rfl) rfl #[.agg #[.slice A0_0 l0_0.length c0_0, .slice A0_1 l0_1.length c0_1]] (by rfl) rfl rfl (by (try simp only [List.map_toArray, List.map_cons, List.map_nil]); first | done | rfl | (simp only [List.length_drop, List.length_take]; rfl)) ?_
  with_reducible refine (laws_toFs.calls k _ _ l0_0 _ _ l0_1 t283 t286 _ ?side1 ?side2 ?side3 ?side4 A12.out).mono ?_
  (case side1 => exact cS HR0_0 HB)
  (case side2 => exact HC0_0.out)
  (case side3 => exact cS HR0_1 HB)
  (case side4 => exact HC0_1.out)
  rintro e w53 ⟨v284, v287, rfl, ho0, ho1, hb⟩
  refine ⟨_, rfl, ?_⟩
  have n_ := aI (aM (Kd.S_elder' (by (with_reducible repeat (first | apply Kd.S_alloc | apply Kd.S_drewN | apply Kd.S_drew)); exact HO270.out) (Kd.S_base ho0) hb)) (aI (eR HO273 ho1 hb) (aI (aM (Kd.S_elder' (by (with_reducible repeat (first | apply Kd.S_alloc | apply Kd.S_drewN | apply Kd.S_drew)); exact HO277.out) (Kd.S_base ho0) hb)) (aI (eR HO280 ho1 hb) (aI (aM (Kd.S_lower (Kd.S_new' (Kd.S_new' ho0 (Kd.S_lt (by (with_reducible repeat (first | apply Kd.S_alloc | apply Kd.S_drewN | apply Kd.S_drew)); exact HO270.out))) (Kd.S_lt (by (with_reducible repeat (first | apply Kd.S_alloc | apply Kd.S_drewN | apply Kd.S_drew)); exact HO277.out))) (zB HB))) (aI (aM (Kd.R_lower (Kd.R_new' (Kd.R_new' ho1 (rL HO273)) (rL HO280)) (zB HB))) (aI (kB BK266 hb) (aI (kB BK281 hb) (sB HB hb))))))))
  clear HO270 HO273 HO277 HO280 BK266 BK281 HB
  obtain ⟨HO270, HO273, HO277, HO280, HO285, HO288, BK266, BK281, HB⟩ := n_
  (try clear hb)
  (try clear hb2)
  (try clear hk)
  (try clear hi)
  (try clear ho0)
  (try clear ho1)
  obtain ⟨Ao54, co54, eo54⟩ := Kd.S_slice HO285.out
  (first | subst eo54 | (injection eo54 with f1_ f2_ f3_; have f4_ := f1_.symm; have f5_ := f3_.symm; clear f1_ f2_ f3_; subst f4_; subst f5_))
  obtain ⟨Ao55, co55, eo55⟩ := Kd.R_slice HO288.out
  (first | subst eo55 | (injection eo55 with f1_ f2_ f3_; have f4_ := f1_.symm; have f5_ := f3_.symm; clear f1_ f2_ f3_; subst f4_; subst f5_))
  refine hK.out _ _ ⟨(blk_cell BK281.out 0).trans rfl, (blk_cell BK281.out 1).trans rfl, (blk_cell BK266.out 0).trans rfl, (blk_cell BK266.out 1).trans rfl⟩ (fun hHeld => ?_)
  clear hK K
  refine norm_ (a' := ?_) ?_ ?_
  rotate_left
  ·show Act.put _ (some 24) _ = _
   simp only [Act.put, List.setIfInBounds_toArray, List.set_cons_zero, List.set_cons_succ, i64_w, i32_w]
   rfl
  refine one_ (i := 3) (N := some 25) #[tT, tT, tT, tT, tF] rfl rfl (by kernel_rfl) (by decide) (fun K hK => ?_)
  refine goes_ Try.func10 (by kernel_rfl) rfl #[.agg #[.slice Ao47 t275.length co47, .slice Ao50 t278.length co50], .agg #[.slice Ao54 t283.length co54, .slice Ao55 t286.length co55]] (by rfl) rfl rfl (by (try simp only [List.map_toArray, List.map_cons, List.map_nil]); first | done | rfl | (simp only [List.length_drop, List.length_take]; rfl)) ?_
  with_reducible refine (laws_eqFs.calls k _ _ t275 _ _ t278 _ _ t283 _ _ t286 false _ ?side1 ?side2 ?side3 ?side4 ?side5 ?side6 ?side7 ?side8 A13.out).mono ?_
  (case side1 => repeat (first | exact (Kd.S_reads' HO277.out).2.2 | (with_reducible refine Kd.C_alloc ?_ _) | (with_reducible refine Kd.C_drewN ?_ _) | (with_reducible refine Kd.C_drew ?_)))
  (case side2 => exact (Kd.S_reads' HO277.out).2.1)
  (case side3 => exact cR HO280)
  (case side4 => exact (Kd.R_reads' HO280.out).2.1)
  (case side5 => repeat (first | exact (Kd.S_reads' HO285.out).2.2 | (with_reducible refine Kd.C_alloc ?_ _) | (with_reducible refine Kd.C_drewN ?_ _) | (with_reducible refine Kd.C_drew ?_)))
  (case side6 => exact (Kd.S_reads' HO285.out).2.1)
  (case side7 => exact cR HO288)
  (case side8 => exact (Kd.R_reads' HO288.out).2.1)
  rintro e w56 ⟨rfl, hb⟩
  refine ⟨_, rfl, ?_⟩
  have n_ := aI (aM (Kd.S_below (by (with_reducible repeat (first | apply Kd.S_alloc | apply Kd.S_drewN | apply Kd.S_drew)); exact HO270.out) hb)) (aI (rB HO273 hb) (aI (aM (Kd.S_below (by (with_reducible repeat (first | apply Kd.S_alloc | apply Kd.S_drewN | apply Kd.S_drew)); exact HO277.out) hb)) (aI (rB HO280 hb) (aI (aM (Kd.S_below (by (with_reducible repeat (first | apply Kd.S_alloc | apply Kd.S_drewN | apply Kd.S_drew)); exact HO285.out) hb)) (aI (rB HO288 hb) (aI (kB BK266 hb) (aI (kB BK281 hb) (sB HB hb))))))))
  clear HO270 HO273 HO277 HO280 HO285 HO288 BK266 BK281 HB
  obtain ⟨HO270, HO273, HO277, HO280, HO285, HO288, BK266, BK281, HB⟩ := n_
  (try clear hb)
  (try clear hb2)
  (try clear hk)
  (try clear hi)
  refine hK.out _ _ ⟨(blk_cell BK281.out 0).trans rfl, (blk_cell BK281.out 1).trans rfl, (blk_cell BK266.out 0).trans rfl, (blk_cell BK266.out 1).trans rfl⟩ (fun hHeld => ?_)
  clear hK K
  refine norm_ (a' := ?_) ?_ ?_
  rotate_left
  ·show Act.put _ (some 25) _ = _
   simp only [Act.put, List.setIfInBounds_toArray, List.set_cons_zero, List.set_cons_succ, i64_w, i32_w]
   rfl
  refine pure_ (i := 4) (N := some 26) (v := ?_) (a' := ?_) #[tT, tT, tT, tT, tT] rfl rfl (by kernel_rfl) (fun _ _ _ h => h) (Or.inl ⟨by rfl, ?_⟩) ?_ ?_
  rotate_left
  ·intro w'
   go_simp
   with_reducible rfl
  rotate_left
  ·simp only [Act.put, List.setIfInBounds_toArray, List.set_cons_zero, List.set_cons_succ, i64_w, i32_w]
   rfl
  refine done_ (by kernel_rfl) ?_
  try go_wp2
  go_ret
  exact ⟨eW, bB⟩
 rw [if_neg c11] at H
 have c11b0 : (t282 == t274) = false := beq_eq_false_iff_ne.mpr c11
 have c11b1 : (t282 != t274) = true := bne_iff_ne.mpr c11
 obtain rfl := Option.some.inj H
 go_enter Try.func5, Try.ntmps5
 go_wp2_with (first | ((with_reducible refine gate_dst (N := 1) rfl ?_); refine bE 1 #[.slice A0_0 l0_0.length c0_0, .slice A0_1 l0_1.length c0_1] 25 ?_; intro gb266 hg w57 hbox hb; have n_ := aI (sB HB hb) (aI (aM hbox) (aI (gE HB hg) (gE HB hg))); clear HB; obtain ⟨HB, BK266, GW266, GE266⟩ := n_; (try clear hb hbox hg); have hcz58_0 := cZ0 BK266; have hcz58_1 := cZ1 BK266; have hfz58_0 := fZ BK266 0; have hfz58_1 := fZ BK266 1) | ((with_reducible refine gate_callee (f := 6) rfl ?_); refine gL (some 9) Try.func6 #[.agg #[.slice A0_0 l0_0.length c0_0, .slice A0_1 l0_1.length c0_1], .int .i64 1048576] ?_; (with_reducible refine (laws_szFs.calls k _ _ l0_0 _ _ l0_1 1048576 t267 _ ?side1 ?side2 ?side3 ?side4 A2.out).mono ?_); (case side1 => exact cS HR0_0 HB); (case side2 => exact HC0_0.out); (case side3 => exact cS HR0_1 HB); (case side4 => exact HC0_1.out); rintro e w59 ⟨rfl, hb⟩; refine ⟨_, rfl, ?_⟩; have n_ := aI (kB BK266 hb) (sB HB hb); clear BK266 HB; obtain ⟨BK266, HB⟩ := n_; (try clear hb); have hcz60_0 := cZ0 BK266; have hcz60_1 := cZ1 BK266; have hfz60_0 := fZ BK266 0; have hfz60_1 := fZ BK266 1) | ((with_reducible refine gate_callee (f := 8) rfl ?_); refine gL (some 13) Try.func8 #[.agg #[.slice A0_0 l0_0.length c0_0, .slice A0_1 l0_1.length c0_1]] ?_; (with_reducible refine (laws_toFs.calls k _ _ l0_0 _ _ l0_1 t268 t271 _ ?side1 ?side2 ?side3 ?side4 A7.out).mono ?_); (case side1 => exact cS HR0_0 HB); (case side2 => exact HC0_0.out); (case side3 => exact cS HR0_1 HB); (case side4 => exact HC0_1.out); rintro e w61 ⟨v269, v272, rfl, ho0, ho1, hb⟩; refine ⟨_, rfl, ?_⟩; have n_ := aI (aM (Kd.S_lower ho0 (zB HB))) (aI (lR HB ho1) (aI (kB BK266 hb) (sB HB hb))); clear BK266 HB; obtain ⟨HO270, HO273, BK266, HB⟩ := n_; (try clear hb ho0 ho1); obtain ⟨Ao62, co62, eo62⟩ := Kd.S_slice HO270.out; subst eo62; obtain ⟨Ao63, co63, eo63⟩ := Kd.R_slice HO273.out; subst eo63) | ((with_reducible refine gate_callee (f := 13) rfl ?_); refine gL (some 14) Try.func13 #[.agg #[.slice Ao62 t268.length co62, .slice Ao63 t271.length co63]] ?_; (with_reducible refine (spec_FreeOf.calls k _ _ t268 _ _ t271 t274 _ ?side1 ?side2 ?side3 ?side4 A8.out).mono ?_); (case side1 => repeat (first | exact (Kd.S_reads' HO270.out).2.2 | (with_reducible refine Kd.C_alloc ?_ _) | (with_reducible refine Kd.C_drewN ?_ _) | (with_reducible refine Kd.C_drew ?_))); (case side2 => exact (Kd.S_reads' HO270.out).2.1); (case side3 => exact cR HO273); (case side4 => exact (Kd.R_reads' HO273.out).2.1); rintro e w64 ⟨rfl, hb⟩; refine ⟨_, rfl, ?_⟩; have n_ := aI (aM (Kd.S_below (by (with_reducible repeat (first | apply Kd.S_alloc | apply Kd.S_drewN | apply Kd.S_drew)); exact HO270.out) hb)) (aI (rB HO273 hb) (aI (kB BK266 hb) (sB HB hb))); clear HO270 HO273 BK266 HB; obtain ⟨HO270, HO273, BK266, HB⟩ := n_; (try clear hb); have hcz65_0 := cZ0 BK266; have hcz65_1 := cZ1 BK266; have hfz65_0 := fZ BK266 0; have hfz65_1 := fZ BK266 1) | ((with_reducible refine gate_callee (f := 8) rfl ?_); refine gL (some 16) Try.func8 #[.agg #[.slice A0_0 l0_0.length c0_0, .slice A0_1 l0_1.length c0_1]] ?_; (with_reducible refine (laws_toFs.calls k _ _ l0_0 _ _ l0_1 t275 t278 _ ?side1 ?side2 ?side3 ?side4 A9.out).mono ?_); (case side1 => exact cS HR0_0 HB); (case side2 => exact HC0_0.out); (case side3 => exact cS HR0_1 HB); (case side4 => exact HC0_1.out); rintro e w66 ⟨v276, v279, rfl, ho0, ho1, hb⟩; refine ⟨_, rfl, ?_⟩; have n_ := aI (aM (Kd.S_elder' (by (with_reducible repeat (first | apply Kd.S_alloc | apply Kd.S_drewN | apply Kd.S_drew)); exact HO270.out) (Kd.S_base ho0) hb)) (aI (eR HO273 ho1 hb) (aI (aM (Kd.S_lower (Kd.S_new' ho0 (Kd.S_lt (by (with_reducible repeat (first | apply Kd.S_alloc | apply Kd.S_drewN | apply Kd.S_drew)); exact HO270.out))) (zB HB))) (aI (aM (Kd.R_lower (Kd.R_new' ho1 (rL HO273)) (zB HB))) (aI (kB BK266 hb) (sB HB hb))))); clear HO270 HO273 BK266 HB; obtain ⟨HO270, HO273, HO277, HO280, BK266, HB⟩ := n_; (try clear hb ho0 ho1)) | ((with_reducible refine gate_dst (N := 5) rfl ?_); refine bE 5 #[.slice none 0 0, .slice none 0 0] 30 ?_; intro gb281 hg w67 hbox hb; have n_ := aI (aM (Kd.S_below (by (with_reducible repeat (first | apply Kd.S_alloc | apply Kd.S_drewN | apply Kd.S_drew)); exact HO270.out) hb)) (aI (rB HO273 hb) (aI (aM (Kd.S_below (by (with_reducible repeat (first | apply Kd.S_alloc | apply Kd.S_drewN | apply Kd.S_drew)); exact HO277.out) hb)) (aI (rB HO280 hb) (aI (kB BK266 hb) (aI (sB HB hb) (aI (aM hbox) (aI (gE HB hg) (aI (gE HB hg) (aI (nL BK266 hg) (nG BK266 hg)))))))))); clear HO270 HO273 HO277 HO280 BK266 HB; obtain ⟨HO270, HO273, HO277, HO280, BK266, HB, BK281, GW281, GE281, NB266_281, NB281_266⟩ := n_; (try clear hb hbox hg); obtain ⟨Ao68, co68, eo68⟩ := Kd.S_slice HO277.out; subst eo68; have hnb69 := NB281_266.out; have hnc69 := NB266_281.out; have hcz70_0 := cZ0 BK281; have hcz70_1 := cZ1 BK281; have hfz70_0 := fZ BK281 0; have hfz70_1 := fZ BK281 1; obtain ⟨Ao71, co71, eo71⟩ := Kd.R_slice HO280.out; subst eo71) | ((with_reducible refine gate_callee (f := 14) rfl ?_); refine gL (some 18) Try.func14 #[.agg #[.slice Ao68 t275.length co68, .slice Ao71 t278.length co71]] ?_; (with_reducible refine (impl_FreeOf.calls k _ _ t275 _ _ t278 t282 _ ?side1 ?side2 ?side3 ?side4 A10.out).mono ?_); (case side1 => refine (Kd.S_reads' (e := 40) (base := w.heap.size) (ok := fun k_ => (True ∧ some k_ ≠ (.slice Ao62 t268.length co62 : Value).ownBlock)) (n := t275.length) (c := co68) ?_).2.2; exact (by (with_reducible repeat (first | apply Kd.S_alloc | apply Kd.S_drewN | apply Kd.S_drew)); exact (Kd.S_mono (Kd.S_far (p := ⟨gb281, 1, none⟩) (Kd.S_far (p := ⟨gb281, 0, none⟩) (Kd.S_types HO277.out BK281.out (by decide)) (fun _ hk => hk.2) (.slice Ao68 t275.length co68)) (fun _ hk => hk.2) (.slice Ao71 t278.length co71)) (fun _ h_ => h_.1)))); (case side2 => exact (Kd.S_reads' HO277.out).2.1); (case side3 => refine (Kd.R_reads' (e := 9) (base := w.heap.size) (ok := fun k_ => (True ∧ some k_ ≠ (.slice Ao63 t271.length co63 : Value).ownBlock)) (n := t278.length) (c := co71) ?_).2.2; exact (rP (Kd.R_mono (Kd.R_far (p := ⟨gb281, 1, none⟩) (Kd.R_far (p := ⟨gb281, 0, none⟩) (Kd.R_types HO280.out BK281.out (by decide)) (fun _ hk => hk.2) (.slice Ao68 t275.length co68)) (fun _ hk => hk.2) (.slice Ao71 t278.length co71)) (fun _ h_ => h_.1)))); (case side4 => exact (Kd.R_reads' HO280.out).2.1); rintro e w72 ⟨rfl, hb⟩; refine ⟨_, rfl, ?_⟩; have n_ := aI (aM (Kd.S_below (by (with_reducible repeat (first | apply Kd.S_alloc | apply Kd.S_drewN | apply Kd.S_drew)); exact (Kd.S_mono (Kd.S_far (p := ⟨gb281, 1, none⟩) (Kd.S_far (p := ⟨gb281, 0, none⟩) (Kd.S_types HO270.out BK281.out (by decide)) (fun _ hk => hk.2) (.slice Ao68 t275.length co68)) (fun _ hk => hk.2) (.slice Ao71 t278.length co71)) (fun _ h_ => h_.1))) hb)) (aI (aM (Kd.R_below (rP (Kd.R_mono (Kd.R_far (p := ⟨gb281, 1, none⟩) (Kd.R_far (p := ⟨gb281, 0, none⟩) (Kd.R_types HO273.out BK281.out (by decide)) (fun _ hk => hk.2) (.slice Ao68 t275.length co68)) (fun _ hk => hk.2) (.slice Ao71 t278.length co71)) (fun _ h_ => h_.1))) hb)) (aI (aM (Kd.S_below (by (with_reducible repeat (first | apply Kd.S_alloc | apply Kd.S_drewN | apply Kd.S_drew)); exact (Kd.S_mono (Kd.S_far (p := ⟨gb281, 1, none⟩) (Kd.S_far (p := ⟨gb281, 0, none⟩) (Kd.S_types HO277.out BK281.out (by decide)) (fun _ hk => hk.2) (.slice Ao68 t275.length co68)) (fun _ hk => hk.2) (.slice Ao71 t278.length co71)) (fun _ h_ => h_.1))) hb)) (aI (aM (Kd.R_below (rP (Kd.R_mono (Kd.R_far (p := ⟨gb281, 1, none⟩) (Kd.R_far (p := ⟨gb281, 0, none⟩) (Kd.R_types HO280.out BK281.out (by decide)) (fun _ hk => hk.2) (.slice Ao68 t275.length co68)) (fun _ hk => hk.2) (.slice Ao71 t278.length co71)) (fun _ h_ => h_.1))) hb)) (aI (kB BK266 hb) (aI (aM (blk_below (g := gb281) (o := .cells #[.slice Ao68 t275.length co68, .slice Ao71 t278.length co71] 30 (0, 0)) (by (with_reducible repeat (first | apply bN | apply bD | apply bA)); refine blk_put (cs := #[.slice Ao68 t275.length co68, .slice none 0 0]) ?_ 1 _ rfl; (with_reducible repeat (first | apply bN | apply bD | apply bA)); refine blk_put (cs := #[.slice none 0 0, .slice none 0 0]) ?_ 0 _ rfl; (with_reducible repeat (first | apply bN | apply bD | apply bA)); exact BK281.out) hb)) (sB HB hb)))))); clear HO270 HO273 HO277 HO280 BK266 BK281 HB; obtain ⟨HO270, HO273, HO277, HO280, BK266, BK281, HB⟩ := n_; (try clear hb)))
 go_ret
 exact ⟨eW, bB⟩

/-- THE ONE PURE STATEMENT of laws_FnExactFreeOf. -/
def laws_FnExactFreeOf.Pure : Prop := ∀ (l0_0 : List (S53)) (l0_1 : List ByteArray), (l0_0.length ≤ maxLen ∧ ∀ x_ ∈ l0_0, ((Lit.int .i64 x_.f0).wf = true ∧ (Lit.int .i64 x_.f1).wf = true ∧ (Lit.int .i64 x_.f2).wf = true ∧ (Lit.int .i64 x_.f3).wf = true ∧ (x_.f4.length ≤ maxLen ∧ ∀ y_ ∈ x_.f4, (Lit.int .i64 y_).wf = true))) → (l0_1.length ≤ maxLen ∧ ∀ x_ ∈ l0_1, x_.size ≤ maxLen) → ∃ k, laws_FnExactFreeOf.f k l0_0 l0_1 = some true

end Go.Proofs.Ytapliilimfgdjaa.PFnExactFreeOf
