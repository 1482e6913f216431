-- Written by xprint.py, a program of this session over the kit's print. Not trusted: Lean checks it.
import Derived.Test.YtgmpdkefegofhaaPFnExactRecoverx0
import Derived.Test.YtgmpdkefegofhaaPFnExactRecoverx8
import Derived.Test.YtgmpdkefegofhaaPFnExactRecoverx9
namespace Go.Proofs.Ytgmpdkefegofhaa.PFnExactRecover
open Go.RowKit Go.Proofs.YtgmpdkefegofhaaW.PrintWords Go.Proofs.YtgmpdkefegofhaaW.PrintLast Go.Proofs.YtgmpdkefegofhaaW.PrintMore
attribute [local go_sem] max2_int min2_int max_two min_two max_three min_three max_four min_four   -- for this text's walks alone
set_option linter.unusedVariables false
set_option linter.unusedSimpArgs false

/-! ### impl_HeadOf: function 86 -/
mutual
def impl_HeadOf.j0 : Nat → Int → List Int → Bool → Option (List Int × Int × Bool)
 | 0, _, _, _ => none
 | k + 1, x1, x7, x29 => if x29 = true then (some (([] : List Int), 0, false)) else ((impl_GetNum.f k x7 1).bind fun bt335 => (if bt335.2.2 = true then (impl_HeadOf.j1 k x1 x7 bt335.1 bt335.2.1 (decide (bt335.1 > 48))) else (impl_HeadOf.j1 k x1 x7 bt335.1 bt335.2.1 true)))
def impl_HeadOf.j1 : Nat → Int → List Int → Int → Int → Bool → Option (List Int × Int × Bool)
 | 0, _, _, _, _, _ => none
 | k + 1, x1, x7, x8, x9, x41 => if x41 = true then (some (([] : List Int), 0, false)) else (impl_HeadOf.l0 k x1 x7 x9 (([] : List (S65))) (([] : List Int)) x8 0)
def impl_HeadOf.l0 : Nat → Int → List Int → Int → List (S65) → List Int → Int → Int → Option (List Int × Int × Bool)
 | 0, _, _, _, _, _, _, _ => none
 | k + 1, x1, x7, x9, x11, x12, x44, x45 => if x45 < x44 then ((impl_GetNum.f k x7 x9).bind fun bt344 => (if bt344.2.2 = true then (if x11.length < 5864062014805 then (if x12.length < 17592186044416 then (impl_HeadOf.l0 k x1 x7 bt344.2.1 (x11 ++ [(⟨bt344.1, (⟨#[]⟩ : ByteArray)⟩ : S65)]) (x12 ++ [bt344.1]) x44 (wrap64 (x45 + 1))) else (none)) else (none)) else (some (([] : List Int), 0, false)))) else (if (x7.length : Int) = (wrap64 (x9 + 4)) then ((impl_TxOk.f k x1 x11).bind fun t353 => (impl_HeadOf.j3 k x7 x9 x12 (!t353))) else (impl_HeadOf.j3 k x7 x9 x12 true))
def impl_HeadOf.j3 : Nat → List Int → Int → List Int → Bool → Option (List Int × Int × Bool)
 | 0, _, _, _, _ => none
 | k + 1, x7, x9, x12, x77 => if x77 = true then (some (([] : List Int), 0, false)) else (if 0 ≤ x9 then (if x9 ≤ (x7.length : Int) then ((some (x7.drop (x9 : Int).toNat : List Int)).bind fun y354 => (impl_HeadOf.l1 k x12 0 y354 (y354.length : Int) 0)) else (none)) else (none))
def impl_HeadOf.l1 : Nat → List Int → Int → List Int → Int → Int → Option (List Int × Int × Bool)
 | 0, _, _, _, _, _ => none
 | k + 1, x12, x16, x80, x81, x82 => if x82 < x81 then (if 0 ≤ x82 then (if x82 < (x80.length : Int) then (impl_HeadOf.l1 k x12 (Go.bits .or .i64 (wrap64 (x16 * 256)) (wrap64 (rd x80 x82))) x80 x81 (wrap64 (x82 + 1))) else (none)) else (none)) else (some (x12, x16, true))
end
def impl_HeadOf.f (k : Nat) (a0 : ByteArray) (a1 : Int) : Option (List Int × Int × Bool) := if a0.size ≤ 9223372036854775807 then ((some (bytesOf a0 : List Int)).bind fun y331 => (if (y331.length : Int) < 5 then (impl_HeadOf.j0 k a1 y331 true) else (if 0 < (y331.length : Int) then (impl_HeadOf.j0 k a1 y331 ((rd y331 0) != 74)) else (none)))) else (none)
theorem impl_HeadOf.mono_l : ∀ k, (∀ y0 y1 y2, LeO (impl_HeadOf.j0 k y0 y1 y2) (impl_HeadOf.j0 (k + 1) y0 y1 y2)) ∧ (∀ y0 y1 y2 y3 y4, LeO (impl_HeadOf.j1 k y0 y1 y2 y3 y4) (impl_HeadOf.j1 (k + 1) y0 y1 y2 y3 y4)) ∧ (∀ y0 y1 y2 y3 y4 y5 y6, LeO (impl_HeadOf.l0 k y0 y1 y2 y3 y4 y5 y6) (impl_HeadOf.l0 (k + 1) y0 y1 y2 y3 y4 y5 y6)) ∧ (∀ y0 y1 y2 y3, LeO (impl_HeadOf.j3 k y0 y1 y2 y3) (impl_HeadOf.j3 (k + 1) y0 y1 y2 y3)) ∧ (∀ y0 y1 y2 y3 y4, LeO (impl_HeadOf.l1 k y0 y1 y2 y3 y4) (impl_HeadOf.l1 (k + 1) y0 y1 y2 y3 y4))
 | 0 => ⟨fun _ _ _ r h => by simp [impl_HeadOf.j0] at h, fun _ _ _ _ _ r h => by simp [impl_HeadOf.j1] at h, fun _ _ _ _ _ _ _ r h => by simp [impl_HeadOf.l0] at h, fun _ _ _ _ r h => by simp [impl_HeadOf.j3] at h, fun _ _ _ _ _ r h => by simp [impl_HeadOf.l1] at h⟩
 | k + 1 => by
  obtain ⟨ih0, ih1, ih2, ih3, ih4⟩ := impl_HeadOf.mono_l k
  refine ⟨?_, ?_, ?_, ?_, ?_⟩
  ·intro y0 y1 y2
   unfold impl_HeadOf.j0
   have m0_ := @impl_GetNum.mono
   have m1_ := @impl_TxOk.mono
   exact mM
  ·intro y0 y1 y2 y3 y4
   unfold impl_HeadOf.j1
   have m0_ := @impl_GetNum.mono
   have m1_ := @impl_TxOk.mono
   exact mM
  ·intro y0 y1 y2 y3 y4 y5 y6
   unfold impl_HeadOf.l0
   have m0_ := @impl_GetNum.mono
   have m1_ := @impl_TxOk.mono
   exact mM
  ·intro y0 y1 y2 y3
   unfold impl_HeadOf.j3
   have m0_ := @impl_GetNum.mono
   have m1_ := @impl_TxOk.mono
   exact mM
  ·intro y0 y1 y2 y3 y4
   unfold impl_HeadOf.l1
   have m0_ := @impl_GetNum.mono
   have m1_ := @impl_TxOk.mono
   exact mM
theorem impl_HeadOf.mono : ∀ a0 a1 k, LeO (impl_HeadOf.f k a0 a1) (impl_HeadOf.f (k + 1) a0 a1) := by
 intro a0 a1 k
 obtain ⟨ih0, ih1, ih2, ih3, ih4⟩ := impl_HeadOf.mono_l k
 unfold impl_HeadOf.f
 have m0_ := @impl_GetNum.mono
 have m1_ := @impl_TxOk.mono
 exact mM
set_option maxHeartbeats 8000000 in
set_option maxRecDepth 100000 in
theorem impl_HeadOf.calls (k : Nat) (a0 : ByteArray) (a1 : Int) (r1 : List Int) (r2 : Int) (r3 : Bool) (w : World) (h : impl_HeadOf.f k a0 a1 = some (r1, r2, r3)) :
  Calls Try.prog 86 #[.string a0, .int .i64 a1] w fun e w' => ∃ v0_ : Value, e = .returned (.tuple #[v0_, .int .i64 r2, .bool r3]) ∧ Kd.R (Kd.int .i64) 3 w' w.heap.size (fun _ => True) v0_ r1 ∧ Below w.heap.size w w' := by
 have hu65 := Try.underlying65
 have HB := Aside0.mk (Below.refl w.heap.size w)
 unfold impl_HeadOf.f at h
 have H := h
 clear h
 by_cases c3 : a0.size ≤ 9223372036854775807
 ·rw [if_pos c3] at H
  have c3b0 := eq_true c3
  have c3b1 : decide (a0.size ≤ 9223372036854775807) = true := decide_eq_true c3
  try have c3b2 : (9223372036854775807 < a0.size) = False := eq_false (Nat.not_lt.2 c3)
  clear c3
  obtain ⟨y331, hy331⟩ : ∃ y_ : List Int, y_ = (bytesOf a0) := ⟨_, rfl⟩
  replace H : (if (y331.length : Int) < 5 then (impl_HeadOf.j0 k a1 y331 true) else (if 0 < (y331.length : Int) then (impl_HeadOf.j0 k a1 y331 ((rd y331 0) != 74)) else (none))) = some (r1, r2, r3) := by first | (rw [hy331]; with_reducible exact H) | (have H2_ := (Option.bind_some _ _).symm.trans H; rw [hy331]; with_reducible exact H2_) | (have H2_ := (Option.bind_some _ _).symm.trans H; with_reducible exact H2_) | with_reducible exact H | (rw [hy331]; exact H) | exact H
  have Ny331 := Aside0.mk hy331
  clear hy331
  have HC4 := Aside0.mk H
  clear H
  go_enter Try.func86, Try.ntmps86
  go_upto_region 2 with (first | ((with_reducible refine gate_dst (N := 20) rfl ?_); refine V_bytes 5 rfl (N' := 20) rfl 9 60 _ rfl a0 rfl Try.underlying9 Try.underlying60 Try.underlying5 (by first | (with_reducible assumption) | assumption | exact dT) ?_; intro v332 w5 ho6 hb hg_ hnew_; clear hg_ hnew_; (first | rw [← Ny331.out] at ho6 | (simp only [Int.reduceToNat] at ho6; rw [← Ny331.out] at ho6)); have n_ := And.intro (Aside0.mk (Kd.V_lower (Kd.V_mono (ok' := fun k_ => True) ho6 (fun k_ hk_ => trivial)) (zB HB))) (sB HB hb); clear HB; obtain ⟨HO333, HB⟩ := n_; (try clear hb ho6)))
  (try simp only [Act.put, List.setIfInBounds_toArray, List.set_cons_zero, List.set_cons_succ])
  go_cut [29] (fun v29 wc => ∃ (kq : Nat) (x29_3 : Bool), v29 = .bool x29_3 ∧ Aside0 (impl_HeadOf.j0 kq a1 y331 x29_3 = some (r1, r2, r3)) ∧ Aside0 (kq ≤ k) ∧ Aside0 (Kd.V (Kd.int .u8) 5 wc w.heap.size (fun _ => True) v332 y331) ∧ Aside0 (Below w.heap.size w wc))
  case first =>
   have H := HC4.out
   clear HC4
   by_cases c7 : (y331.length : Int) < 5
   ·rw [if_pos c7] at H
    have c7b0 : decide ((y331.length : Int) < 5) = true := decide_eq_true c7
    have c7b1 : decide (y331.length < 5) = true := decide_eq_true (by omega)
    clear c7
    (first | rw [c7b0] | (simp only [i64_w, i32_w]; rw [c7b0]) | rw [c7b1] | rw [c7b2] | skip)
    have H' := Aside0.mk H
    clear H
    obtain ⟨Ao8, co8, eo8⟩ := Kd.V_slice HO333.out
    subst eo8
    go_wp2
    go_meet
    case rel => exact ⟨_, (true), (by first | rfl | (simp; done) | (simp [*]; done) | (simp; exact (by intro l_; cases l_ <;> rfl : ∀ l_ : List UInt8, l_.isEmpty = !(l_ != [])) _)), H', ⟨by first | omega | exact Nat.le_refl _⟩, ⟨by (with_reducible repeat (first | apply Kd.V_alloc | apply Kd.V_drewN | apply Kd.V_drew)); exact HO333.out⟩, ⟨bB⟩⟩
   rw [if_neg c7] at H
   have c7b0 : decide ((y331.length : Int) < 5) = false := decide_eq_false c7
   have c7b1 : decide (y331.length < 5) = false := decide_eq_false (by omega)
   clear c7
   (first | rw [c7b0] | (simp only [i64_w, i32_w]; rw [c7b0]) | rw [c7b1] | rw [c7b2] | skip)
   by_cases c9 : 0 < (y331.length : Int)
   ·rw [if_pos c9] at H
    have c9b0 : decide (0 < (y331.length : Int)) = true := decide_eq_true c9
    have c9b1 : decide (0 < y331.length) = true := decide_eq_true (by omega)
    clear c9
    have H' := Aside0.mk H
    clear H
    obtain ⟨Ao10, co10, eo10⟩ := Kd.V_slice HO333.out
    subst eo10
    have p334 : 0 ≤ (0 : Int) := (by omega)
    have q334 : 0 < (y331.length : Int) := dT
    obtain ⟨ad334, e334, hx334_0⟩ := Kd.at_int (Kd.V_reads' HO333.out).2.2 0 p334 q334
    cases e334
    have qi334 : (0 < y331.length) = True := eq_true (by omega)
    (try rw [show ((0 : Int)).toNat = 0 from rfl] at hx334_0)
    (try rw [Addr.add_zero'] at hx334_0)
    replace p334 := eq_true p334
    replace q334 := eq_true q334
    go_wp2
    go_meet
    case rel => exact ⟨_, (((rd y331 0) != 74)), (by first | rfl | (simp; done) | (simp [*]; done) | (simp; exact (by intro l_; cases l_ <;> rfl : ∀ l_ : List UInt8, l_.isEmpty = !(l_ != [])) _)), H', ⟨by first | omega | exact Nat.le_refl _⟩, ⟨by (with_reducible repeat (first | apply Kd.V_alloc | apply Kd.V_drewN | apply Kd.V_drew)); exact HO333.out⟩, ⟨bB⟩⟩
   rw [if_neg c9] at H
   exact absurd H (by simp)
  case rest =>
   clear HC4
   try clear p2
   try clear c3
   try clear c3b0
   try clear c3b1
   try clear c3b2
   try clear p3
   try clear q3
   try clear hx3
   try clear qi3
   try clear c7
   try clear c7b0
   try clear c7b1
   try clear c7b2
   try clear c8
   try clear c9
   try clear c9b0
   try clear c9b1
   try clear hx334_0
   try clear p334
   try clear q334
   obtain ⟨kq, x29_3, rfl, HA, HJ3, HO_7, HB⟩ := hcut
   cases kq with
   | zero => exact absurd HA.out (by simp [impl_HeadOf.j0])
   | succ kj3 =>
    have H := HA.out
    clear HA
    simp only [impl_HeadOf.j0] at H
    by_cases c11 : x29_3 = true
    ·subst c11
     rw [if_pos rfl] at H
     simp only [Option.some.injEq, Prod.mk.injEq] at H
     obtain ⟨rfl, rfl, rfl⟩ := H
     go_wp2
     go_ret3
     exact ⟨_, eW, by first | exact Kd.R_nil _ _ _ _ _ | exact Kd.N_nil _ _ _ _ _ | exact Kd.V_nil _ _ _ _ _ | exact Kd.Q_nil _ _ _ _ _ | exact Kd.S_nil _ _ _ _ _, bB⟩
    ·replace c11 := Bool.eq_false_iff.mpr c11
     subst c11
     rw [if_neg (show ¬ (false = true) by decide)] at H
     replace H := Option.bind_eq_some_iff.mp H
     obtain ⟨⟨t335, t336, t337⟩, A120, H⟩ := H
     try dsimp only at H
     have A12 := Aside0.mk A120
     clear A120
     have HC13 := Aside0.mk H
     clear H
     obtain ⟨Ao14, co14, eo14⟩ := Kd.V_slice HO_7.out
     subst eo14
     go_upto_region 5 with (first | ((with_reducible refine gate_callee (f := 116) rfl ?_); refine gL (some 32) Try.func116 #[.slice Ao14 y331.length co14, .int .i64 1] ?_; (with_reducible refine (impl_GetNum.calls kj3 _ _ y331 1 t335 t336 t337 _ ?side1 ?side2 A12.out).mono ?_); (case side1 => repeat (first | exact (Kd.V_reads' HO_7.out).2.2 | (with_reducible refine Kd.C_alloc ?_ _) | (with_reducible refine Kd.C_drewN ?_ _) | (with_reducible refine Kd.C_drew ?_))); (case side2 => exact (Kd.V_reads' HO_7.out).2.1); rintro e w' ⟨rfl, ⟨nd, rfl⟩⟩; refine ⟨_, rfl, ?_⟩))
     (try simp only [Act.put, List.setIfInBounds_toArray, List.set_cons_zero, List.set_cons_succ])
     go_cut [41] (fun v41 wc => ∃ (kq : Nat) (x41_12 : Bool), v41 = .bool x41_12 ∧ Aside0 (impl_HeadOf.j1 kq a1 y331 t335 t336 x41_12 = some (r1, r2, r3)) ∧ Aside0 (kq ≤ kj3) ∧ Aside0 (Kd.V (Kd.int .u8) 5 wc w.heap.size (fun _ => True) (.slice Ao14 y331.length co14) y331) ∧ Aside0 (Below w.heap.size w wc))
     case first =>
      have H := HC13.out
      clear HC13
      by_cases c15 : t337 = true
      ·subst c15
       rw [if_pos rfl] at H
       have H' := Aside0.mk H
       clear H
       go_wp2
       go_meet
       case rel => exact ⟨_, (decide (t335 > 48)), (by first | rfl | (simp; done) | (simp [*]; done) | (simp; exact (by intro l_; cases l_ <;> rfl : ∀ l_ : List UInt8, l_.isEmpty = !(l_ != [])) _)), H', ⟨by have := HJ3.out; first | omega | exact Nat.le_refl _⟩, ⟨by (with_reducible repeat (first | apply Kd.V_alloc | apply Kd.V_drewN | apply Kd.V_drew)); exact HO_7.out⟩, ⟨bB⟩⟩
      ·replace c15 := Bool.eq_false_iff.mpr c15
       subst c15
       rw [if_neg (show ¬ (false = true) by decide)] at H
       have H' := Aside0.mk H
       clear H
       go_wp2
       go_meet
       case rel => exact ⟨_, (true), (by first | rfl | (simp; done) | (simp [*]; done) | (simp; exact (by intro l_; cases l_ <;> rfl : ∀ l_ : List UInt8, l_.isEmpty = !(l_ != [])) _)), H', ⟨by have := HJ3.out; first | omega | exact Nat.le_refl _⟩, ⟨by (with_reducible repeat (first | apply Kd.V_alloc | apply Kd.V_drewN | apply Kd.V_drew)); exact HO_7.out⟩, ⟨bB⟩⟩
     case rest =>
      clear HC13
      try clear c1
      try clear p2
      try clear c3
      try clear c3b0
      try clear c3b1
      try clear c3b2
      try clear p3
      try clear q3
      try clear hx3
      try clear qi3
      try clear c7
      try clear c7b0
      try clear c7b1
      try clear c7b2
      try clear c8
      try clear c9
      try clear c9b0
      try clear c9b1
      try clear c11
      try clear c15
      try clear hx334_0
      try clear p2
      try clear p3
      try clear p334
      try clear q3
      try clear q334
      obtain ⟨kq, x41_12, rfl, HA, HJ12, HO_7, HB⟩ := hcut
      cases kq with
      | zero => exact absurd HA.out (by simp [impl_HeadOf.j1])
      | succ kj12 =>
       have H := HA.out
       clear HA
       simp only [impl_HeadOf.j1] at H
       by_cases c16 : x41_12 = true
       ·subst c16
        rw [if_pos rfl] at H
        simp only [Option.some.injEq, Prod.mk.injEq] at H
        obtain ⟨rfl, rfl, rfl⟩ := H
        go_wp2
        go_ret3
        exact ⟨_, eW, by first | exact Kd.R_nil _ _ _ _ _ | exact Kd.N_nil _ _ _ _ _ | exact Kd.V_nil _ _ _ _ _ | exact Kd.Q_nil _ _ _ _ _ | exact Kd.S_nil _ _ _ _ _, bB⟩
       ·replace c16 := Bool.eq_false_iff.mpr c16
        subst c16
        rw [if_neg (show ¬ (false = true) by decide)] at H
        obtain ⟨y338, hy338⟩ : ∃ y_ : List (S65), y_ = (([] : List (S65))) := ⟨_, rfl⟩
        replace H : (impl_HeadOf.l0 kj12 a1 y331 t336 y338 (([] : List Int)) t335 0) = some (r1, r2, r3) := by first | (rw [hy338]; with_reducible exact H) | (have H2_ := (Option.bind_some _ _).symm.trans H; rw [hy338]; with_reducible exact H2_) | (have H2_ := (Option.bind_some _ _).symm.trans H; with_reducible exact H2_) | with_reducible exact H | (rw [hy338]; exact H) | exact H
        have Ny338 := Aside0.mk hy338
        clear hy338
        obtain ⟨y341, hy341⟩ : ∃ y_ : List Int, y_ = (([] : List Int)) := ⟨_, rfl⟩
        replace H : (impl_HeadOf.l0 kj12 a1 y331 t336 y338 y341 t335 0) = some (r1, r2, r3) := by first | (rw [hy341]; with_reducible exact H) | (have H2_ := (Option.bind_some _ _).symm.trans H; rw [hy341]; with_reducible exact H2_) | (have H2_ := (Option.bind_some _ _).symm.trans H; with_reducible exact H2_) | with_reducible exact H | (rw [hy341]; exact H) | exact H
        have Ny341 := Aside0.mk hy341
        clear hy341
        have H' := Aside0.mk H
        clear H
        go_wp2_with (first | ((with_reducible refine gate_dst (N := 42) rfl ?_); refine Kd.R_lit k65 _ 65 ?hg (N := 42) ?hd (xs := ([] : List (S65))) (inner := []) (ok := fun _ => True) (okp := fun _ => True) ?hr ?hp (fun _ hk => hk) trivial (Below.refl _ _) (Nat.le_refl _) (by simp) ?_; (case hd => rfl); (case hg => rfl); (case hr => first | (go_simp; done) | (go_simp; rfl)); (case hp => exact (Reps.none _ _)); intro v339 w17 ho18 hb hg_ hnew_; clear hg_ hnew_; (first | rw [← Ny338.out] at ho18 | (simp only [Int.reduceToNat] at ho18; rw [← Ny338.out] at ho18)); have n_ := And.intro (Aside0.mk (Kd.V_elder' (by (with_reducible repeat (first | apply Kd.V_alloc | apply Kd.V_drewN | apply Kd.V_drew)); exact HO_7.out) (Kd.R_base ho18) hb)) (And.intro (lR HB ho18) (sB HB hb)); clear HO_7 HB; obtain ⟨HO_7, HO340, HB⟩ := n_; (try clear hb ho18)) | ((with_reducible refine gate_dst (N := 43) rfl ?_); refine Kd.R_lit (Kd.int .i64) _ 3 ?hg (N := 43) ?hd (xs := ([] : List Int)) (inner := []) (ok := fun _ => True) (okp := fun _ => True) ?hr ?hp (fun _ hk => hk) trivial (Below.refl _ _) (Nat.le_refl _) (by simp) ?_; (case hd => rfl); (case hg => rfl); (case hr => first | (go_simp; done) | (go_simp; rfl)); (case hp => exact (Reps.none _ _)); intro v342 w19 ho20 hb hg_ hnew_; clear hg_ hnew_; (first | rw [← Ny341.out] at ho20 | (simp only [Int.reduceToNat] at ho20; rw [← Ny341.out] at ho20)); have n_ := And.intro (Aside0.mk (Kd.V_elder' (by (with_reducible repeat (first | apply Kd.V_alloc | apply Kd.V_drewN | apply Kd.V_drew)); exact HO_7.out) (Kd.R_base ho20) hb)) (And.intro (rB HO340 hb) (And.intro (lR HB ho20) (sB HB hb))); clear HO_7 HO340 HB; obtain ⟨HO_7, HO340, HO343, HB⟩ := n_; (try clear hb ho20)))
        go_loopg [9, 11, 12, 45] kj12 (fun kq v9 v11 v12 v45 w' => ∃ (x9_3 : Int) (x11_3 : List (S65)) (x12_3 : List Int) (x45_3 : Int), v9 = .int .i64 x9_3 ∧ v45 = .int .i64 x45_3 ∧ Aside0 (impl_HeadOf.l0 kq a1 y331 x9_3 x11_3 x12_3 t335 x45_3 = some (r1, r2, r3)) ∧ Aside0 (kq ≤ kj12) ∧ Aside0 (Kd.V (Kd.int .u8) 5 w' w.heap.size (fun k_ => some k_ ≠ (v11 : Value).ownBlock ∧ some k_ ≠ (v12 : Value).ownBlock) (.slice Ao14 y331.length co14) y331) ∧ Aside0 (Kd.R k65 65 w' w.heap.size (fun _ => True) v11 x11_3) ∧ Aside0 (Kd.R (Kd.int .i64) 3 w' w.heap.size (fun _ => True) v12 x12_3) ∧ Aside0 (Below w.heap.size w w'))
        case atStart => exact ⟨(t336), (y338), (y341), (0), (by first | rfl | (simp; done) | (simp [*]; done) | (simp; exact (by intro l_; cases l_ <;> rfl : ∀ l_ : List UInt8, l_.isEmpty = !(l_ != [])) _)), (by first | rfl | (simp; done) | (simp [*]; done) | (simp; exact (by intro l_; cases l_ <;> rfl : ∀ l_ : List UInt8, l_.isEmpty = !(l_ != [])) _)), H', ⟨Nat.le_refl _⟩, ⟨by (with_reducible repeat (first | apply Kd.V_alloc | apply Kd.V_drewN | apply Kd.V_drew)); exact Kd.V_mono HO_7.out (fun _ hk => ⟨hk.1.2, hk.2⟩)⟩, ⟨rP HO340.out⟩, ⟨rP HO343.out⟩, ⟨bB⟩⟩
        case round =>
         clear H'
         try clear c1
         try clear p2
         try clear c3
         try clear c3b0
         try clear c3b1
         try clear c3b2
         try clear p3
         try clear q3
         try clear hx3
         try clear qi3
         try clear c7
         try clear c7b0
         try clear c7b1
         try clear c7b2
         try clear c8
         try clear c9
         try clear c9b0
         try clear c9b1
         try clear c11
         try clear c15
         try clear c16
         try clear hx334_0
         try clear p2
         try clear p3
         try clear p334
         try clear q3
         try clear q334
         obtain ⟨x9_3, x11_3, x12_3, x45_3, rfl, rfl, HA, HK3, HO_7, HO_11, HO_12, HB⟩ := hrel
         cases gk with
         | zero => exact absurd HA.out (by simp [impl_HeadOf.l0])
         | succ k3 =>
          have H := HA.out
          clear HA
          simp only [impl_HeadOf.l0] at H
          by_cases c21 : x45_3 < t335
          ·rw [if_pos c21] at H
           have c21b0 : decide (x45_3 < t335) = true := decide_eq_true c21
           clear c21
           replace H := Option.bind_eq_some_iff.mp H
           obtain ⟨⟨t344, t345, t346⟩, A220, H⟩ := H
           try dsimp only at H
           have A22 := Aside0.mk A220
           clear A220
           by_cases c23 : t346 = true
           ·subst c23
            rw [if_pos rfl] at H
            by_cases c24 : x11_3.length < 5864062014805
            ·rw [if_pos c24] at H
             have LMc24 := Aside0.mk c24
             clear c24
             obtain ⟨y347, hy347⟩ : ∃ y_ : List (S65), y_ = (x11_3 ++ [(⟨t344, (⟨#[]⟩ : ByteArray)⟩ : S65)]) := ⟨_, rfl⟩
             replace H : (if x12_3.length < 17592186044416 then (impl_HeadOf.l0 k3 a1 y331 t345 y347 (x12_3 ++ [t344]) t335 (wrap64 (x45_3 + 1))) else (none)) = some (r1, r2, r3) := by first | (rw [hy347]; with_reducible exact H) | (have H2_ := (Option.bind_some _ _).symm.trans H; rw [hy347]; with_reducible exact H2_) | (have H2_ := (Option.bind_some _ _).symm.trans H; with_reducible exact H2_) | with_reducible exact H | (rw [hy347]; exact H) | exact H
             have Ny347 := Aside0.mk hy347
             clear hy347
             by_cases c25 : x12_3.length < 17592186044416
             ·rw [if_pos c25] at H
              have LMc25 := Aside0.mk c25
              clear c25
              obtain ⟨y350, hy350⟩ : ∃ y_ : List Int, y_ = (x12_3 ++ [t344]) := ⟨_, rfl⟩
              replace H : (impl_HeadOf.l0 k3 a1 y331 t345 y347 y350 t335 (wrap64 (x45_3 + 1))) = some (r1, r2, r3) := by first | (rw [hy350]; with_reducible exact H) | (have H2_ := (Option.bind_some _ _).symm.trans H; rw [hy350]; with_reducible exact H2_) | (have H2_ := (Option.bind_some _ _).symm.trans H; with_reducible exact H2_) | with_reducible exact H | (rw [hy350]; exact H) | exact H
              have Ny350 := Aside0.mk hy350
              clear hy350
              have H' := Aside0.mk H
              clear H
              go_wp2_with (first | ((with_reducible refine gate_callee (f := 116) rfl ?_); refine gL (some 50) Try.func116 #[.slice Ao14 y331.length co14, .int .i64 x9_3] ?_; (with_reducible refine (impl_GetNum.calls k3 _ _ y331 x9_3 t344 t345 true _ ?side1 ?side2 A22.out).mono ?_); (case side1 => repeat (first | exact (Kd.V_reads' HO_7.out).2.2 | (with_reducible refine Kd.C_alloc ?_ _) | (with_reducible refine Kd.C_drewN ?_ _) | (with_reducible refine Kd.C_drew ?_))); (case side2 => exact (Kd.V_reads' HO_7.out).2.1); rintro e w' ⟨rfl, ⟨nd, rfl⟩⟩; refine ⟨_, rfl, ?_⟩) | ((with_reducible refine gate_builtin (b := .append) (xs := #[.tmp 56, .tmp 59]) rfl ?_); at_builtin; refine Kd.R_append k65 (w0 := w) w.heap.size rfl (.tmp 56) (.tmp 59) 28 65 (.agg #[(.int .i64 0), (.string ⟨#[]⟩)]) 24 rfl Try.underlying28 info65 rfl (by decide) (by omega) u11 x11_3 (⟨t344, (⟨#[]⟩ : ByteArray)⟩ : S65) [.int .i64 t344, .string (⟨#[]⟩ : ByteArray)] (fun _ => True) (fun _ => False) rfl rfl ?aP (fun _ hk => hk.elim) ?aF ?aO ?aB ?aS ?aL ?_; (case aP => exact k65_mkM _ _ _ (⟨t344, (⟨#[]⟩ : ByteArray)⟩ : S65)); (case aB => exact bB); (case aF => exact (fun _ _ => trivial)); (case aO => exact (rP HO_11.out)); (case aS => exact (zB HB)); (case aL => have := LMc24.out; omega); intro v348 w26 ho hb hg hat; rw [← Ny347.out] at ho; have n_ := And.intro (Aside0.mk (Kd.V_afterv (ok := (fun k_ => some k_ ≠ (u12 : Value).ownBlock)) (by (with_reducible repeat (first | apply Kd.V_alloc | apply Kd.V_drewN | apply Kd.V_drew)); exact Kd.V_mono HO_7.out (fun _ hk => ⟨hk.2, hk.1⟩)) hg hat)) (And.intro (Aside0.mk (Kd.R_over' (rP HO_12.out) (Kd.R_typed (rP HO_11.out)) (by decide) hg)) (And.intro (Aside0.mk (hb)) (Aside0.mk (ho)))); clear HO_7 HO_12 HB HO_11; obtain ⟨HO_7, HO_12, HB, HO349⟩ := n_; (try clear ho hb hg hat)) | ((with_reducible refine gate_builtin (b := .append) (xs := #[.tmp 61, .tmp 63]) rfl ?_); at_builtin; refine Kd.R_append (Kd.int .i64) (w0 := w) w.heap.size rfl (.tmp 61) (.tmp 63) 95 3 (.int .i64 0) 8 rfl Try.underlying95 info3 rfl (by decide) (by omega) u12 x12_3 t344 [.int .i64 t344] (fun _ => True) (fun _ => False) rfl rfl ?aP (fun _ hk => hk.elim) ?aF ?aO ?aB ?aS ?aL ?_; (case aP => exact rfl); (case aB => exact bB); (case aF => exact (fun _ _ => trivial)); (case aO => exact (rP HO_12.out)); (case aS => exact (zB HB)); (case aL => have := LMc25.out; omega); intro v351 w27 ho hb hg hat; rw [← Ny350.out] at ho; have n_ := And.intro (Aside0.mk (Kd.V_afterv (ok := (fun k_ => some k_ ≠ (v348 : Value).ownBlock)) (by (with_reducible repeat (first | apply Kd.V_alloc | apply Kd.V_drewN | apply Kd.V_drew)); exact Kd.V_mono HO_7.out (fun _ hk => ⟨hk.2, hk.1⟩)) hg hat)) (And.intro (Aside0.mk (Kd.R_over' (rP HO349.out) (Kd.R_typed (rP HO_12.out)) (by decide) hg)) (And.intro (Aside0.mk (hb)) (Aside0.mk (ho)))); clear HO_7 HO349 HB HO_12; obtain ⟨HO_7, HO349, HB, HO352⟩ := n_; (try clear ho hb hg hat)))
              go_roundg k3
              case measure => have := HJ3.out; have := HJ12.out; have := HK3.out; omega
              case rel => exact ⟨(t345), (y347), (y350), (wrap64 (x45_3 + 1)), (by first | rfl | (simp; done) | (simp [*]; done) | (simp; exact (by intro l_; cases l_ <;> rfl : ∀ l_ : List UInt8, l_.isEmpty = !(l_ != [])) _)), (by first | rfl | (simp; done) | (simp [*]; done) | (simp; exact (by intro l_; cases l_ <;> rfl : ∀ l_ : List UInt8, l_.isEmpty = !(l_ != [])) _)), H', ⟨by have := HJ3.out; have := HJ12.out; have := HK3.out; omega⟩, ⟨by (with_reducible repeat (first | apply Kd.V_alloc | apply Kd.V_drewN | apply Kd.V_drew)); exact HO_7.out⟩, ⟨rP HO349.out⟩, ⟨rP HO352.out⟩, ⟨bB⟩⟩
             ·rw [if_neg c25] at H
              exact absurd H (by simp)
            ·rw [if_neg c24] at H
             exact absurd H (by simp)
           ·replace c23 := Bool.eq_false_iff.mpr c23
            subst c23
            rw [if_neg (show ¬ (false = true) by decide)] at H
            simp only [Option.some.injEq, Prod.mk.injEq] at H
            obtain ⟨rfl, rfl, rfl⟩ := H
            go_wp2_with (first | ((with_reducible refine gate_callee (f := 116) rfl ?_); refine gL (some 50) Try.func116 #[.slice Ao14 y331.length co14, .int .i64 x9_3] ?_; (with_reducible refine (impl_GetNum.calls k3 _ _ y331 x9_3 t344 t345 false _ ?side1 ?side2 A22.out).mono ?_); (case side1 => repeat (first | exact (Kd.V_reads' HO_7.out).2.2 | (with_reducible refine Kd.C_alloc ?_ _) | (with_reducible refine Kd.C_drewN ?_ _) | (with_reducible refine Kd.C_drew ?_))); (case side2 => exact (Kd.V_reads' HO_7.out).2.1); rintro e w' ⟨rfl, ⟨nd, rfl⟩⟩; refine ⟨_, rfl, ?_⟩))
            go_ret3
            exact ⟨_, eW, by first | exact Kd.R_nil _ _ _ _ _ | exact Kd.N_nil _ _ _ _ _ | exact Kd.V_nil _ _ _ _ _ | exact Kd.Q_nil _ _ _ _ _ | exact Kd.S_nil _ _ _ _ _, bB⟩
          ·rw [if_neg c21] at H
           have c21b0 : decide (x45_3 < t335) = false := decide_eq_false c21
           clear c21
           have HC28 := Aside0.mk H
           clear H
           go_upto_region 18 with (fail)
           go_cut [77] (fun v77 wc => ∃ (kq : Nat) (x77_27 : Bool), v77 = .bool x77_27 ∧ Aside0 (impl_HeadOf.j3 kq y331 x9_3 x12_3 x77_27 = some (r1, r2, r3)) ∧ Aside0 (kq ≤ k3) ∧ Aside0 (Kd.V (Kd.int .u8) 5 wc w.heap.size (fun k_ => some k_ ≠ (u12 : Value).ownBlock) (.slice Ao14 y331.length co14) y331) ∧ Aside0 (Kd.R (Kd.int .i64) 3 wc w.heap.size (fun _ => True) u12 x12_3) ∧ Aside0 (Below w.heap.size w wc))
           case first =>
            have H := HC28.out
            clear HC28
            by_cases c29 : (y331.length : Int) = (wrap64 (x9_3 + 4))
            ·rw [if_pos c29] at H
             have c29b0 : ((y331.length : Int) == (wrap64 (x9_3 + 4))) = true := beq_iff_eq.mpr c29
             have c29b1 : ((y331.length : Int) != (wrap64 (x9_3 + 4))) = false := bne_eq_false_iff_eq.mpr c29
             clear c29
             (first | rw [c29b0] | (simp only [i64_w, i32_w]; rw [c29b0]) | rw [c29b1] | rw [c29b2] | skip)
             replace H := Option.bind_eq_some_iff.mp H
             obtain ⟨t353, A300, H⟩ := H
             try dsimp only at H
             have A30 := Aside0.mk A300
             clear A300
             have H' := Aside0.mk H
             clear H
             obtain ⟨Ao31, co31, eo31⟩ := Kd.R_slice HO_11.out
             subst eo31
             go_wp2_with (first | (go_at_call 100; (with_reducible refine (impl_TxOk.calls k3 a1 _ _ x11_3 t353 _ ?side1 ?side2 A30.out).mono ?_); (case side1 => exact cR HO_11); (case side2 => exact (Kd.R_reads' HO_11.out).2.1); rintro e w32 ⟨rfl, hb⟩; have n_ := And.intro (Aside0.mk (Kd.V_below (by (with_reducible repeat (first | apply Kd.V_alloc | apply Kd.V_drewN | apply Kd.V_drew)); exact HO_7.out) hb)) (And.intro (rB HO_11 hb) (And.intro (rB HO_12 hb) (sB HB hb))); clear HO_7 HO_11 HO_12 HB; obtain ⟨HO_7, HO_11, HO_12, HB⟩ := n_; (try clear hb)))
             go_meet
             case rel => exact ⟨_, (!t353), (by first | rfl | (simp; done) | (simp [*]; done) | (simp; exact (by intro l_; cases l_ <;> rfl : ∀ l_ : List UInt8, l_.isEmpty = !(l_ != [])) _)), H', ⟨by have := HJ3.out; have := HJ12.out; have := HK3.out; first | omega | exact Nat.le_refl _⟩, ⟨by (with_reducible repeat (first | apply Kd.V_alloc | apply Kd.V_drewN | apply Kd.V_drew)); exact Kd.V_mono HO_7.out (fun _ hk => hk.2)⟩, ⟨rP HO_12.out⟩, ⟨bB⟩⟩
            ·rw [if_neg c29] at H
             have c29b0 : ((y331.length : Int) == (wrap64 (x9_3 + 4))) = false := beq_eq_false_iff_ne.mpr c29
             have c29b1 : ((y331.length : Int) != (wrap64 (x9_3 + 4))) = true := bne_iff_ne.mpr c29
             (first | rw [c29b0] | (simp only [i64_w, i32_w]; rw [c29b0]) | rw [c29b1] | rw [c29b2] | skip)
             have H' := Aside0.mk H
             clear H
             go_wp2
             go_meet
             case rel => exact ⟨_, (true), (by first | rfl | (simp; done) | (simp [*]; done) | (simp; exact (by intro l_; cases l_ <;> rfl : ∀ l_ : List UInt8, l_.isEmpty = !(l_ != [])) _)), H', ⟨by have := HJ3.out; have := HJ12.out; have := HK3.out; first | omega | exact Nat.le_refl _⟩, ⟨by (with_reducible repeat (first | apply Kd.V_alloc | apply Kd.V_drewN | apply Kd.V_drew)); exact Kd.V_mono HO_7.out (fun _ hk => hk.2)⟩, ⟨rP HO_12.out⟩, ⟨bB⟩⟩
           case rest =>
            clear HC28
            try clear c1
            try clear c2
            try clear p2
            try clear c3
            try clear c3b0
            try clear c3b1
            try clear c3b2
            try clear p3
            try clear q3
            try clear hx3
            try clear qi3
            try clear p6
            try clear c7
            try clear c7b0
            try clear c7b1
            try clear c7b2
            try clear c8
            try clear c9
            try clear c9b0
            try clear c9b1
            try clear c11
            try clear c15
            try clear c16
            try clear c21
            try clear c21b0
            try clear c23
            try clear c24
            try clear c25
            try clear c29
            try clear c29b0
            try clear c29b1
            try clear c29b2
            try clear hx334_0
            try clear p2
            try clear p3
            try clear p334
            try clear q3
            try clear q334
            obtain ⟨kq, x77_27, rfl, HA, HJ27, HO_7, HO_12, HB⟩ := hcut
            cases kq with
            | zero => exact absurd HA.out (by simp [impl_HeadOf.j3])
            | succ kj27 =>
             have H := HA.out
             clear HA
             simp only [impl_HeadOf.j3] at H
             by_cases c33 : x77_27 = true
             ·subst c33
              rw [if_pos rfl] at H
              simp only [Option.some.injEq, Prod.mk.injEq] at H
              obtain ⟨rfl, rfl, rfl⟩ := H
              go_wp2
              go_ret3
              exact ⟨_, eW, by first | exact Kd.R_nil _ _ _ _ _ | exact Kd.N_nil _ _ _ _ _ | exact Kd.V_nil _ _ _ _ _ | exact Kd.Q_nil _ _ _ _ _ | exact Kd.S_nil _ _ _ _ _, bB⟩
             ·replace c33 := Bool.eq_false_iff.mpr c33
              subst c33
              rw [if_neg (show ¬ (false = true) by decide)] at H
              by_cases c34 : 0 ≤ x9_3
              ·rw [if_pos c34] at H
               have c34b0 := eq_true c34
               have c34b1 : decide (0 ≤ x9_3) = true := decide_eq_true c34
               clear c34
               by_cases c35 : x9_3 ≤ (y331.length : Int)
               ·rw [if_pos c35] at H
                have c35b0 := eq_true c35
                have c35b1 : decide (x9_3 ≤ (y331.length : Int)) = true := decide_eq_true c35
                clear c35
                obtain ⟨y354, hy354⟩ : ∃ y_ : List Int, y_ = (y331.drop (x9_3 : Int).toNat) := ⟨_, rfl⟩
                replace H : (impl_HeadOf.l1 kj27 x12_3 0 y354 (y354.length : Int) 0) = some (r1, r2, r3) := by first | (rw [hy354]; with_reducible exact H) | (have H2_ := (Option.bind_some _ _).symm.trans H; rw [hy354]; with_reducible exact H2_) | (have H2_ := (Option.bind_some _ _).symm.trans H; with_reducible exact H2_) | with_reducible exact H | (rw [hy354]; exact H) | exact H
                have Ny354 := Aside0.mk hy354
                clear hy354
                have H' := Aside0.mk H
                clear H
                have q36 : (x9_3 : Int) ≤ ((y331.length : Int) : Int) := dT
                obtain ⟨i036, hi036, _, hsz36, _⟩ := info_parts info5
                have hroom36 : y331.length ≤ co14 := (Kd.V_reads' HO_7.out).2.1
                have hC36 : Kd.F (Kd.int .u8) _ _ Ao14 y331.length y331 := (Kd.V_at (base := w.heap.size) HO_7.out).2.2
                have q036 : (0 : Int) ≤ (x9_3 : Int) := dT
                have hcut36 := cut_from (P := Try.prog) 60 5 .i64 Try.underlying60 hi036 1 hsz36 Ao14 y331.length co14 x9_3 q036 q36
                have hr36 := Kd.F_cut (m := (x9_3 : Int).toNat) (c := co14) hC36 (by omega) hroom36
                obtain ⟨A36, hA36⟩ : ∃ A1, A1 = (if co14 = (x9_3 : Int).toNat then Ao14 else (Ao14 : Option Addr).map (·.add ((x9_3 : Int).toNat * 1))) := ⟨_, rfl⟩
                obtain ⟨c36, hc36⟩ : ∃ c1, c1 = co14 - (x9_3 : Int).toNat := ⟨_, rfl⟩
                have hy36 : y354.length = y331.length - (x9_3 : Int).toNat := (by rw [Ny354.out, List.length_drop] <;> omega)
                rw [show (y331).drop (x9_3 : Int).toNat = y354 from Ny354.out.symm] at hr36
                replace hr36 : Kd.F (Kd.int .u8) _ _ A36 y354.length y354 := (by rw [hA36]; exact hr36)
                rw [← hy36, ← hA36, ← hc36] at hcut36
                have HO358 := Aside0.mk (show Kd.V (Kd.int .u8) 5 _ w.heap.size _ (.slice A36 y354.length c36) y354 from Kd.V_mk (by rw [hy36, hc36]; exact Nat.sub_le_sub_right hroom36 _) hr36)
                have HC358 := Aside0.mk (show y354.length ≤ c36 from by rw [hy36, hc36]; exact Nat.sub_le_sub_right hroom36 _)
                clear hr36 hC36 hroom36 hi036 hsz36 hc36
                have KY36 := Aside0.mk hy36
                have KA36 := Aside0.mk hA36
                clear hy36 hA36
                replace q36 := eq_true q36
                go_wp2
                go_loopg [16, 82] kj27 (fun kq v16 v82 w' => ∃ (x16_5 : Int) (x82_5 : Int), v16 = .int .i64 x16_5 ∧ v82 = .int .i64 x82_5 ∧ Aside0 (impl_HeadOf.l1 kq x12_3 x16_5 y354 (y354.length : Int) x82_5 = some (r1, r2, r3)) ∧ Aside0 (kq ≤ kj27) ∧ Aside0 (Kd.R (Kd.int .i64) 3 w' w.heap.size (fun _ => True) u12 x12_3) ∧ Aside0 (Kd.V (Kd.int .u8) 5 w' w.heap.size (fun k_ => some k_ ≠ (u12 : Value).ownBlock) (.slice A36 y354.length c36) y354) ∧ Aside0 (Below w.heap.size w w'))
                case atStart => exact ⟨(0), (0), (by first | rfl | (simp; done) | (simp [*]; done) | (simp; exact (by intro l_; cases l_ <;> rfl : ∀ l_ : List UInt8, l_.isEmpty = !(l_ != [])) _)), (by first | rfl | (simp; done) | (simp [*]; done) | (simp; exact (by intro l_; cases l_ <;> rfl : ∀ l_ : List UInt8, l_.isEmpty = !(l_ != [])) _)), H', ⟨Nat.le_refl _⟩, ⟨rP HO_12.out⟩, ⟨by (with_reducible repeat (first | apply Kd.V_alloc | apply Kd.V_drewN | apply Kd.V_drew)); exact HO358.out⟩, ⟨bB⟩⟩
                case round =>
                 clear H'
                 try clear c1
                 try clear c2
                 try clear p2
                 try clear c3
                 try clear c3b0
                 try clear c3b1
                 try clear c3b2
                 try clear p3
                 try clear q3
                 try clear hx3
                 try clear qi3
                 try clear p6
                 try clear c7
                 try clear c7b0
                 try clear c7b1
                 try clear c7b2
                 try clear c8
                 try clear c9
                 try clear c9b0
                 try clear c9b1
                 try clear c11
                 try clear c15
                 try clear c16
                 try clear c21
                 try clear c21b0
                 try clear c23
                 try clear c24
                 try clear c25
                 try clear c29
                 try clear c29b0
                 try clear c29b1
                 try clear c29b2
                 try clear c33
                 try clear p33
                 try clear q33
                 try clear hx33
                 try clear qi33
                 try clear c34
                 try clear c34b0
                 try clear c34b1
                 try clear c35
                 try clear c35b0
                 try clear c35b1
                 try clear c36
                 try clear q36
                 try clear hx334_0
                 try clear p2
                 try clear p3
                 try clear p334
                 try clear p6
                 try clear q036
                 try clear q3
                 try clear q334
                 try clear q36
                 obtain ⟨x16_5, x82_5, rfl, rfl, HA, HK5, HO_12, HO_80, HB⟩ := hrel
                 cases gk with
                 | zero => exact absurd HA.out (by simp [impl_HeadOf.l1])
                 | succ k5 =>
                  have H := HA.out
                  clear HA
                  simp only [impl_HeadOf.l1] at H
                  by_cases c37 : x82_5 < (y354.length : Int)
                  ·rw [if_pos c37] at H
                   have c37b0 : decide (x82_5 < (y354.length : Int)) = true := decide_eq_true c37
                   clear c37
                   by_cases c38 : 0 ≤ x82_5
                   ·rw [if_pos c38] at H
                    have c38b0 : decide (0 ≤ x82_5) = true := decide_eq_true c38
                    clear c38
                    by_cases c39 : x82_5 < (y354.length : Int)
                    ·rw [if_pos c39] at H
                     have c39b0 : decide (x82_5 < (y354.length : Int)) = true := decide_eq_true c39
                     clear c39
                     have H' := Aside0.mk H
                     clear H
                     have p359 : 0 ≤ (x82_5 : Int) := dT
                     have q359 : x82_5 < (y354.length : Int) := dT
                     obtain ⟨ad359, e359, hx359_0⟩ := Kd.at_int (Kd.V_reads' HO_80.out).2.2 x82_5 p359 q359
                     cases e359
                     replace p359 := eq_true p359
                     replace q359 := eq_true q359
                     go_wp2
                     go_roundg k5
                     case measure => have := HJ3.out; have := HJ12.out; have := HK3.out; have := HJ27.out; have := HK5.out; omega
                     case rel => exact ⟨(Go.bits .or .i64 (wrap64 (x16_5 * 256)) (wrap64 (rd y354 x82_5))), (wrap64 (x82_5 + 1)), (by first | rfl | (simp; done) | (simp [*]; done) | (simp; exact (by intro l_; cases l_ <;> rfl : ∀ l_ : List UInt8, l_.isEmpty = !(l_ != [])) _)), (by first | rfl | (simp; done) | (simp [*]; done) | (simp; exact (by intro l_; cases l_ <;> rfl : ∀ l_ : List UInt8, l_.isEmpty = !(l_ != [])) _)), H', ⟨by have := HJ3.out; have := HJ12.out; have := HK3.out; have := HJ27.out; have := HK5.out; omega⟩, ⟨rP HO_12.out⟩, ⟨by (with_reducible repeat (first | apply Kd.V_alloc | apply Kd.V_drewN | apply Kd.V_drew)); exact HO_80.out⟩, ⟨bB⟩⟩
                    ·rw [if_neg c39] at H
                     exact absurd H (by simp)
                   ·rw [if_neg c38] at H
                    exact absurd H (by simp)
                  ·rw [if_neg c37] at H
                   have c37b0 : decide (x82_5 < (y354.length : Int)) = false := decide_eq_false c37
                   clear c37
                   simp only [Option.some.injEq, Prod.mk.injEq] at H
                   obtain ⟨rfl, rfl, rfl⟩ := H
                   go_wp2
                   go_ret3
                   exact ⟨_, eW, by (with_reducible repeat (first | apply Kd.R_alloc | apply Kd.R_drewN | apply Kd.R_drew)); exact HO_12.out, bB⟩
               ·rw [if_neg c35] at H
                exact absurd H (by simp)
              ·rw [if_neg c34] at H
               exact absurd H (by simp)
 rw [if_neg c3] at H
 exact absurd H (by simp)

/-! ### impl_PutNum: function 130 -/
def impl_PutNum.l0 : Nat → Int → List Int → Option (List Int)
 | 0, _, _ => none
 | k + 1, x0, x3 => if x0 ≥ 128 then (if x3.length < 140737488355328 then (impl_PutNum.l0 k (x0 / 128) (x3 ++ [(Go.bits .or .i64 (Go.bits .and .i64 x0 127) 128) % 256])) else (none)) else (if x3.length < 140737488355328 then (some (x3 ++ [(x0) % 256])) else (none))
def impl_PutNum.f (k : Nat) (a0 : Int) : Option (List Int) := (impl_within.f a0 0 2147483647).bind fun t360 => (if t360 = true then (impl_PutNum.l0 k a0 (([] : List Int))) else (some ([] : List Int)))
theorem impl_PutNum.mono_l : ∀ k, (∀ y0 y1, LeO (impl_PutNum.l0 k y0 y1) (impl_PutNum.l0 (k + 1) y0 y1))
 | 0 => fun _ _ r h => by simp [impl_PutNum.l0] at h
 | k + 1 => by
  have ih0 := impl_PutNum.mono_l k
  ·intro y0 y1
   unfold impl_PutNum.l0
   exact mM
theorem impl_PutNum.mono : ∀ a0 k, LeO (impl_PutNum.f k a0) (impl_PutNum.f (k + 1) a0) := by
 intro a0 k
 have ih0 := impl_PutNum.mono_l k
 unfold impl_PutNum.f
 exact mM
set_option maxHeartbeats 8000000 in
set_option maxRecDepth 100000 in
theorem impl_PutNum.calls (k : Nat) (a0 : Int) (r : List Int) (w : World) (h : impl_PutNum.f k a0 = some r) :
  Calls Try.prog 130 #[.int .i64 a0] w fun e w' => ∃ v0_ : Value, e = .returned (v0_) ∧ Kd.R (Kd.int .u8) 5 w' w.heap.size (fun _ => True) v0_ r ∧ Below w.heap.size w w' := by
 have HB := Aside0.mk (Below.refl w.heap.size w)
 unfold impl_PutNum.f at h
 have H := h
 clear h
 replace H := Option.bind_eq_some_iff.mp H
 obtain ⟨t360, A20, H⟩ := H
 try dsimp only at H
 have A2 := Aside0.mk A20
 clear A20
 by_cases c3 : t360 = true
 ·subst c3
  rw [if_pos rfl] at H
  obtain ⟨y361, hy361⟩ : ∃ y_ : List Int, y_ = (([] : List Int)) := ⟨_, rfl⟩
  replace H : (impl_PutNum.l0 k a0 y361) = some r := by first | (rw [hy361]; with_reducible exact H) | (have H2_ := (Option.bind_some _ _).symm.trans H; rw [hy361]; with_reducible exact H2_) | (have H2_ := (Option.bind_some _ _).symm.trans H; with_reducible exact H2_) | with_reducible exact H | (rw [hy361]; exact H) | exact H
  have Ny361 := Aside0.mk hy361
  clear hy361
  have H' := Aside0.mk H
  clear H
  go_enter Try.func130, Try.ntmps130
  go_wp2_with (first | ((with_reducible refine gate_callee (f := 67) rfl ?_); refine gL (some 5) Try.func67 #[.int .i64 a0, .int .i64 0, .int .i64 2147483647] ?_; (with_reducible refine (impl_within.calls a0 0 2147483647 true _ A2.out).mono ?_); rintro e w' ⟨rfl, ⟨nd, rfl⟩⟩; refine ⟨_, rfl, ?_⟩) | ((with_reducible refine gate_dst (N := 7) rfl ?_); refine Kd.R_lit (Kd.int .u8) _ 5 ?hg (N := 7) ?hd (xs := ([] : List Int)) (inner := []) (ok := fun _ => True) (okp := fun _ => True) ?hr ?hp (fun _ hk => hk) trivial (Below.refl _ _) (Nat.le_refl _) (by simp) ?_; (case hd => rfl); (case hg => rfl); (case hr => first | (go_simp; done) | (go_simp; rfl)); (case hp => exact (Reps.none _ _)); intro v362 w4 ho5 hb hg_ hnew_; clear hg_ hnew_; (first | rw [← Ny361.out] at ho5 | (simp only [Int.reduceToNat] at ho5; rw [← Ny361.out] at ho5)); have n_ := And.intro (lR HB ho5) (sB HB hb); clear HB; obtain ⟨HO363, HB⟩ := n_; (try clear hb ho5)))
  go_loopg [0, 3] k (fun kq v0 v3 w' => ∃ (x0_1 : Int) (x3_1 : List Int), v0 = .int .i64 x0_1 ∧ Aside0 (impl_PutNum.l0 kq x0_1 x3_1 = some r) ∧ Aside0 (kq ≤ k) ∧ Aside0 (Kd.R (Kd.int .u8) 5 w' w.heap.size (fun _ => True) v3 x3_1) ∧ Aside0 (Below w.heap.size w w'))
  case atStart => exact ⟨(a0), (y361), (by first | rfl | (simp; done) | (simp [*]; done) | (simp; exact (by intro l_; cases l_ <;> rfl : ∀ l_ : List UInt8, l_.isEmpty = !(l_ != [])) _)), H', ⟨Nat.le_refl _⟩, ⟨rP HO363.out⟩, ⟨bB⟩⟩
  case round =>
   clear H'
   try clear c1
   try clear p2
   try clear c3
   obtain ⟨x0_1, x3_1, rfl, HA, HK1, HO_3, HB⟩ := hrel
   cases gk with
   | zero => exact absurd HA.out (by simp [impl_PutNum.l0])
   | succ k1 =>
    have H := HA.out
    clear HA
    simp only [impl_PutNum.l0] at H
    by_cases c6 : x0_1 ≥ 128
    ·rw [if_pos c6] at H
     have c6b0 : decide (128 ≤ x0_1) = true := decide_eq_true c6
     clear c6
     by_cases c7 : x3_1.length < 140737488355328
     ·rw [if_pos c7] at H
      have LMc7 := Aside0.mk c7
      clear c7
      obtain ⟨y364, hy364⟩ : ∃ y_ : List Int, y_ = (x3_1 ++ [(Go.bits .or .i64 (Go.bits .and .i64 x0_1 127) 128) % 256]) := ⟨_, rfl⟩
      replace H : (impl_PutNum.l0 k1 (x0_1 / 128) y364) = some r := by first | (rw [hy364]; with_reducible exact H) | (have H2_ := (Option.bind_some _ _).symm.trans H; rw [hy364]; with_reducible exact H2_) | (have H2_ := (Option.bind_some _ _).symm.trans H; with_reducible exact H2_) | with_reducible exact H | (rw [hy364]; exact H) | exact H
      have Ny364 := Aside0.mk hy364
      clear hy364
      have H' := Aside0.mk H
      clear H
      go_wp2_with (first | ((with_reducible refine gate_builtin (b := .append) (xs := #[.tmp 10, .tmp 15]) rfl ?_); at_builtin; refine Kd.R_append (Kd.int .u8) (w0 := w) w.heap.size rfl (.tmp 10) (.tmp 15) 60 5 (.int .u8 0) 1 rfl Try.underlying60 info5 rfl (by decide) (by omega) u3 x3_1 ((Go.bits .or .i64 (Go.bits .and .i64 x0_1 127) 128) % 256) [.int .u8 ((Go.bits .or .i64 (Go.bits .and .i64 x0_1 127) 128) % 256)] (fun _ => True) (fun _ => False) rfl rfl ?aP (fun _ hk => hk.elim) ?aF ?aO ?aB ?aS ?aL ?_; (case aP => exact rfl); (case aB => exact bB); (case aF => exact (fun _ _ => trivial)); (case aO => exact (rP HO_3.out)); (case aS => exact (zB HB)); (case aL => have := LMc7.out; omega); intro v365 w8 ho hb hg hat; rw [← Ny364.out] at ho; have n_ := And.intro (Aside0.mk (hb)) (Aside0.mk (ho)); clear HB HO_3; obtain ⟨HB, HO366⟩ := n_; (try clear ho hb hg hat)))
      go_roundg k1
      case measure => have := HK1.out; omega
      case rel => exact ⟨(x0_1 / 128), (y364), (by first | rfl | (simp; done) | (simp [*]; done) | (simp; exact (by intro l_; cases l_ <;> rfl : ∀ l_ : List UInt8, l_.isEmpty = !(l_ != [])) _)), H', ⟨by have := HK1.out; omega⟩, ⟨rP HO366.out⟩, ⟨bB⟩⟩
     ·rw [if_neg c7] at H
      exact absurd H (by simp)
    ·rw [if_neg c6] at H
     have c6b0 : decide (128 ≤ x0_1) = false := decide_eq_false c6
     clear c6
     by_cases c9 : x3_1.length < 140737488355328
     ·rw [if_pos c9] at H
      have LMc9 := Aside0.mk c9
      clear c9
      obtain ⟨y367, hy367⟩ : ∃ y_ : List Int, y_ = (x3_1 ++ [(x0_1) % 256]) := ⟨_, rfl⟩
      replace H : (some y367) = some r := by first | (rw [hy367]; with_reducible exact H) | (have H2_ := (Option.bind_some _ _).symm.trans H; rw [hy367]; with_reducible exact H2_) | (have H2_ := (Option.bind_some _ _).symm.trans H; with_reducible exact H2_) | with_reducible exact H | (rw [hy367]; exact H) | exact H
      have Ny367 := Aside0.mk hy367
      clear hy367
      obtain rfl := Option.some.inj H
      go_wp2_with (first | ((with_reducible refine gate_builtin (b := .append) (xs := #[.tmp 19, .tmp 22]) rfl ?_); at_builtin; refine Kd.R_append (Kd.int .u8) (w0 := w) w.heap.size rfl (.tmp 19) (.tmp 22) 60 5 (.int .u8 0) 1 rfl Try.underlying60 info5 rfl (by decide) (by omega) u3 x3_1 ((x0_1) % 256) [.int .u8 ((x0_1) % 256)] (fun _ => True) (fun _ => False) rfl rfl ?aP (fun _ hk => hk.elim) ?aF ?aO ?aB ?aS ?aL ?_; (case aP => exact rfl); (case aB => exact bB); (case aF => exact (fun _ _ => trivial)); (case aO => exact (rP HO_3.out)); (case aS => exact (zB HB)); (case aL => have := LMc9.out; omega); intro v368 w10 ho hb hg hat; rw [← Ny367.out] at ho; have n_ := And.intro (Aside0.mk (hb)) (Aside0.mk (ho)); clear HB HO_3; obtain ⟨HB, HO369⟩ := n_; (try clear ho hb hg hat)))
      go_ret
      exact ⟨_, eW, by (with_reducible repeat (first | apply Kd.R_alloc | apply Kd.R_drewN | apply Kd.R_drew)); exact HO369.out, bB⟩
     ·rw [if_neg c9] at H
      exact absurd H (by simp)
 replace c3 := Bool.eq_false_iff.mpr c3
 subst c3
 rw [if_neg (show ¬ (false = true) by decide)] at H
 obtain rfl := Option.some.inj H
 go_enter Try.func130, Try.ntmps130
 go_wp2_with (first | ((with_reducible refine gate_callee (f := 67) rfl ?_); refine gL (some 5) Try.func67 #[.int .i64 a0, .int .i64 0, .int .i64 2147483647] ?_; (with_reducible refine (impl_within.calls a0 0 2147483647 false _ A2.out).mono ?_); rintro e w' ⟨rfl, ⟨nd, rfl⟩⟩; refine ⟨_, rfl, ?_⟩))
 go_ret
 exact ⟨_, eW, by first | exact Kd.R_nil _ _ _ _ _ | exact Kd.N_nil _ _ _ _ _ | exact Kd.V_nil _ _ _ _ _ | exact Kd.Q_nil _ _ _ _ _ | exact Kd.S_nil _ _ _ _ _, bB⟩

/-! ### impl_PutText: function 117 -/
def impl_PutText.f (k : Nat) (a0 : ByteArray) : Option (List Int) := (impl_PutNum.f k (a0.size : Int)).bind fun t370 => (if t370.length + a0.size < 140737488355328 then (some (t370 ++ bytesOf a0)) else (none))
theorem impl_PutText.mono : ∀ a0 k, LeO (impl_PutText.f k a0) (impl_PutText.f (k + 1) a0) := by
 intro a0 k
 unfold impl_PutText.f
 have m0_ := @impl_PutNum.mono
 exact mM
set_option maxHeartbeats 8000000 in
set_option maxRecDepth 100000 in
theorem impl_PutText.calls (k : Nat) (a0 : ByteArray) (r : List Int) (w : World) (h : impl_PutText.f k a0 = some r) :
  Calls Try.prog 117 #[.string a0] w fun e w' => ∃ v0_ : Value, e = .returned (v0_) ∧ Kd.R (Kd.int .u8) 5 w' w.heap.size (fun _ => True) v0_ r ∧ Below w.heap.size w w' := by
 have HB := Aside0.mk (Below.refl w.heap.size w)
 unfold impl_PutText.f at h
 have H := h
 clear h
 replace H := Option.bind_eq_some_iff.mp H
 obtain ⟨t370, A20, H⟩ := H
 try dsimp only at H
 have A2 := Aside0.mk A20
 clear A20
 by_cases c3 : t370.length + a0.size < 140737488355328
 ·rw [if_pos c3] at H
  have LMc3 := Aside0.mk c3
  clear c3
  obtain ⟨y373, hy373⟩ : ∃ y_ : List Int, y_ = (t370 ++ bytesOf a0) := ⟨_, rfl⟩
  replace H : (some y373) = some r := by first | (rw [hy373]; with_reducible exact H) | (have H2_ := (Option.bind_some _ _).symm.trans H; rw [hy373]; with_reducible exact H2_) | (have H2_ := (Option.bind_some _ _).symm.trans H; with_reducible exact H2_) | with_reducible exact H | (rw [hy373]; exact H) | exact H
  have Ny373 := Aside0.mk hy373
  clear hy373
  obtain rfl := Option.some.inj H
  go_enter Try.func117, Try.ntmps117
  go_wp2_with (first | ((with_reducible refine gate_callee (f := 130) rfl ?_); refine gL (some 5) Try.func130 #[.int .i64 (a0.size : Int)] ?_; (with_reducible refine (impl_PutNum.calls k (a0.size : Int) t370 _ A2.out).mono ?_); rintro e w4 ⟨v371, rfl, ho0, hb⟩; refine ⟨_, rfl, ?_⟩; have n_ := And.intro (lR HB ho0) (sB HB hb); clear HB; obtain ⟨HO372, HB⟩ := n_; (try clear hb ho0)) | (at_builtin; refine print_append_str (w0 := w) w.heap.size rfl (.tmp 5) _ 60 9 5 rfl Try.underlying60 Try.underlying9 info5 v371 t370 a0 rfl rfl ?aO ?aB ?aS ?aL ?_; (case aB => exact bB); (case aO => exact (Kd.own_of_R (rP HO372.out))); (case aS => exact (zB HB)); (case aL => have := LMc3.out; omega); intro v374 w5 ho0 hb hg; have ho := Kd.R_of_own (h1 := fun _ => rfl) (ok := fun _ => True) ho0 (fun _ _ => trivial); clear ho0; have hat := True.intro; rw [← Ny373.out] at ho; change Kd.R (Kd.int .u8) 5 w5 w.heap.size (fun _ => True) v374 y373 at ho; have n_ := And.intro (Aside0.mk (hb)) (Aside0.mk (ho)); clear HB HO372; obtain ⟨HB, HO375⟩ := n_; (try clear hb hg)))
  go_ret
  exact ⟨_, eW, by (with_reducible repeat (first | apply Kd.R_alloc | apply Kd.R_drewN | apply Kd.R_drew)); exact HO375.out, bB⟩
 rw [if_neg c3] at H
 exact absurd H (by simp)

/-! ### impl_Crc: function 118 -/
mutual
def impl_Crc.l0 : Nat → Int → List Int → Int → Int → Option (Int)
 | 0, _, _, _, _ => none
 | k + 1, x3, x7, x8, x9 => if x9 < x8 then (if 0 ≤ x9 then (if x9 < (x7.length : Int) then (impl_Crc.l1 k (Go.bits .xor .i64 x3 (wrap64 (rd x7 x9))) x7 x8 x9 0) else (none)) else (none)) else (some (Go.bits .xor .i64 x3 4294967295))
def impl_Crc.l1 : Nat → Int → List Int → Int → Int → Int → Option (Int)
 | 0, _, _, _, _, _ => none
 | k + 1, x3, x7, x8, x9, x17 => if x17 < 8 then (if (Go.bits .and .i64 x3 1) = 1 then (impl_Crc.l1 k (Go.bits .xor .i64 (x3 / 2) 3988292384) x7 x8 x9 (wrap64 (x17 + 1))) else (impl_Crc.l1 k (x3 / 2) x7 x8 x9 (wrap64 (x17 + 1)))) else (impl_Crc.l0 k x3 x7 x8 (wrap64 (x9 + 1)))
end
def impl_Crc.f (k : Nat) (l0 : List Int) : Option (Int) := impl_Crc.l0 k 4294967295 l0 (l0.length : Int) 0
theorem impl_Crc.mono_l : ∀ k, (∀ y0 y1 y2 y3, LeO (impl_Crc.l0 k y0 y1 y2 y3) (impl_Crc.l0 (k + 1) y0 y1 y2 y3)) ∧ (∀ y0 y1 y2 y3 y4, LeO (impl_Crc.l1 k y0 y1 y2 y3 y4) (impl_Crc.l1 (k + 1) y0 y1 y2 y3 y4))
 | 0 => ⟨fun _ _ _ _ r h => by simp [impl_Crc.l0] at h, fun _ _ _ _ _ r h => by simp [impl_Crc.l1] at h⟩
 | k + 1 => by
  obtain ⟨ih0, ih1⟩ := impl_Crc.mono_l k
  refine ⟨?_, ?_⟩
  ·intro y0 y1 y2 y3
   unfold impl_Crc.l0
   exact mM
  ·intro y0 y1 y2 y3 y4
   unfold impl_Crc.l1
   exact mM
theorem impl_Crc.mono : ∀ a0 k, LeO (impl_Crc.f k a0) (impl_Crc.f (k + 1) a0) := by
 intro a0 k
 obtain ⟨ih0, ih1⟩ := impl_Crc.mono_l k
 unfold impl_Crc.f
 exact mM
set_option maxHeartbeats 8000000 in
set_option maxRecDepth 100000 in
theorem impl_Crc.calls (k : Nat) (A0 : Option Addr) (c0 : Nat) (l0 : List Int) (r : Int) (w : World) (hr0 : Kd.C (Kd.int .u8) w A0 l0.length l0) (hc0 : l0.length ≤ c0) (h : impl_Crc.f k l0 = some r) :
  Calls Try.prog 118 #[.slice A0 l0.length c0] w fun e w' => e = .returned (.int .i64 r) ∧ Drawn0 w w' := by
 have HR0 := Aside0.mk hr0
 have HC0 := Aside0.mk hc0
 clear hr0 hc0
 unfold impl_Crc.f at h
 have H := h
 clear h
 have H' := Aside0.mk H
 clear H
 go_enter Try.func118, Try.ntmps118
 go_wp2
 go_loopg [3, 9] k (fun kq v3 v9 w' => ∃ (x3_1 : Int) (x9_1 : Int), v3 = .int .i64 x3_1 ∧ v9 = .int .i64 x9_1 ∧ Aside0 (impl_Crc.l0 kq x3_1 l0 (l0.length : Int) x9_1 = some r) ∧ Aside0 (kq ≤ k) ∧ Drawn0 w w')
 case atStart => exact ⟨(4294967295), (0), (by first | rfl | (simp; done) | (simp [*]; done) | (simp; exact (by intro l_; cases l_ <;> rfl : ∀ l_ : List UInt8, l_.isEmpty = !(l_ != [])) _)), (by first | rfl | (simp; done) | (simp [*]; done) | (simp; exact (by intro l_; cases l_ <;> rfl : ∀ l_ : List UInt8, l_.isEmpty = !(l_ != [])) _)), H', ⟨Nat.le_refl _⟩, by repeat (first | exact Drawn0.refl _ | apply Drawn0.step)⟩
 case round =>
  clear H'
  try clear c1
  obtain ⟨x3_1, x9_1, rfl, rfl, HA, HK1, ⟨m1, rfl⟩⟩ := hrel
  cases gk with
  | zero => exact absurd HA.out (by simp [impl_Crc.l0])
  | succ k1 =>
   have H := HA.out
   clear HA
   simp only [impl_Crc.l0] at H
   by_cases c2 : x9_1 < (l0.length : Int)
   ·rw [if_pos c2] at H
    have c2b0 : decide (x9_1 < (l0.length : Int)) = true := decide_eq_true c2
    clear c2
    by_cases c3 : 0 ≤ x9_1
    ·rw [if_pos c3] at H
     have c3b0 : decide (0 ≤ x9_1) = true := decide_eq_true c3
     clear c3
     by_cases c4 : x9_1 < (l0.length : Int)
     ·rw [if_pos c4] at H
      have c4b0 : decide (x9_1 < (l0.length : Int)) = true := decide_eq_true c4
      clear c4
      have H' := Aside0.mk H
      clear H
      have p376 : 0 ≤ (x9_1 : Int) := dT
      have q376 : x9_1 < (l0.length : Int) := dT
      obtain ⟨ad376, e376, hx376_0⟩ := Kd.at_int HR0.out x9_1 p376 q376
      cases e376
      replace p376 := eq_true p376
      replace q376 := eq_true q376
      go_wp2
      go_loopg [3, 17] k1 (fun kq v3 v17 w' => ∃ (x3_2 : Int) (x17_2 : Int), v3 = .int .i64 x3_2 ∧ v17 = .int .i64 x17_2 ∧ Aside0 (impl_Crc.l1 kq x3_2 l0 (l0.length : Int) x9_1 x17_2 = some r) ∧ Aside0 (kq ≤ k1) ∧ Drawn0 w w')
      case atStart => exact ⟨(Go.bits .xor .i64 x3_1 (wrap64 (rd l0 x9_1))), (0), (by first | rfl | (simp; done) | (simp [*]; done) | (simp; exact (by intro l_; cases l_ <;> rfl : ∀ l_ : List UInt8, l_.isEmpty = !(l_ != [])) _)), (by first | rfl | (simp; done) | (simp [*]; done) | (simp; exact (by intro l_; cases l_ <;> rfl : ∀ l_ : List UInt8, l_.isEmpty = !(l_ != [])) _)), H', ⟨Nat.le_refl _⟩, by repeat (first | exact Drawn0.refl _ | apply Drawn0.step)⟩
      case round =>
       clear H'
       try clear c1
       try clear c2
       try clear c2b0
       try clear p2
       try clear c3
       try clear c3b0
       try clear p3
       try clear q3
       try clear hx3
       try clear c4
       try clear c4b0
       try clear hx376_0
       try clear p376
       try clear q376
       obtain ⟨x3_2, x17_2, rfl, rfl, HA, HK2, ⟨m2, rfl⟩⟩ := hrel
       cases gk with
       | zero => exact absurd HA.out (by simp [impl_Crc.l1])
       | succ k2 =>
        have H := HA.out
        clear HA
        simp only [impl_Crc.l1] at H
        by_cases c5 : x17_2 < 8
        ·rw [if_pos c5] at H
         have c5b0 : decide (x17_2 < 8) = true := decide_eq_true c5
         clear c5
         by_cases c6 : (Go.bits .and .i64 x3_2 1) = 1
         ·rw [if_pos c6] at H
          have c6b0 : ((Go.bits .and .i64 x3_2 1) == 1) = true := beq_iff_eq.mpr c6
          have c6b1 : ((Go.bits .and .i64 x3_2 1) != 1) = false := bne_eq_false_iff_eq.mpr c6
          clear c6
          have H' := Aside0.mk H
          clear H
          go_wp2
          go_roundg k2
          case measure => have := HK1.out; have := HK2.out; omega
          case rel => exact ⟨(Go.bits .xor .i64 (x3_2 / 2) 3988292384), (wrap64 (x17_2 + 1)), (by first | rfl | (simp; done) | (simp [*]; done) | (simp; exact (by intro l_; cases l_ <;> rfl : ∀ l_ : List UInt8, l_.isEmpty = !(l_ != [])) _)), (by first | rfl | (simp; done) | (simp [*]; done) | (simp; exact (by intro l_; cases l_ <;> rfl : ∀ l_ : List UInt8, l_.isEmpty = !(l_ != [])) _)), H', ⟨by have := HK1.out; have := HK2.out; omega⟩, by repeat (first | exact Drawn0.refl _ | apply Drawn0.step)⟩
         ·rw [if_neg c6] at H
          have c6b0 : ((Go.bits .and .i64 x3_2 1) == 1) = false := beq_eq_false_iff_ne.mpr c6
          have c6b1 : ((Go.bits .and .i64 x3_2 1) != 1) = true := bne_iff_ne.mpr c6
          have H' := Aside0.mk H
          clear H
          go_wp2
          go_roundg k2
          case measure => have := HK1.out; have := HK2.out; omega
          case rel => exact ⟨(x3_2 / 2), (wrap64 (x17_2 + 1)), (by first | rfl | (simp; done) | (simp [*]; done) | (simp; exact (by intro l_; cases l_ <;> rfl : ∀ l_ : List UInt8, l_.isEmpty = !(l_ != [])) _)), (by first | rfl | (simp; done) | (simp [*]; done) | (simp; exact (by intro l_; cases l_ <;> rfl : ∀ l_ : List UInt8, l_.isEmpty = !(l_ != [])) _)), H', ⟨by have := HK1.out; have := HK2.out; omega⟩, by repeat (first | exact Drawn0.refl _ | apply Drawn0.step)⟩
        ·rw [if_neg c5] at H
         have c5b0 : decide (x17_2 < 8) = false := decide_eq_false c5
         clear c5
         have H' := Aside0.mk H
         clear H
         go_wp2
         go_roundg k2
         case measure => have := HK1.out; have := HK2.out; omega
         case rel => exact ⟨(x3_2), (wrap64 (x9_1 + 1)), (by first | rfl | (simp; done) | (simp [*]; done) | (simp; exact (by intro l_; cases l_ <;> rfl : ∀ l_ : List UInt8, l_.isEmpty = !(l_ != [])) _)), (by first | rfl | (simp; done) | (simp [*]; done) | (simp; exact (by intro l_; cases l_ <;> rfl : ∀ l_ : List UInt8, l_.isEmpty = !(l_ != [])) _)), H', ⟨by have := HK1.out; have := HK2.out; omega⟩, by repeat (first | exact Drawn0.refl _ | apply Drawn0.step)⟩
     ·rw [if_neg c4] at H
      exact absurd H (by simp)
    ·rw [if_neg c3] at H
     exact absurd H (by simp)
   ·rw [if_neg c2] at H
    have c2b0 : decide (x9_1 < (l0.length : Int)) = false := decide_eq_false c2
    clear c2
    obtain rfl := Option.some.inj H
    go_wp2
    go_ret
    exact ⟨by first | rfl | (simp; done) | (simp [*]; done), by repeat (first | exact Drawn0.refl _ | apply Drawn0.step)⟩

end Go.Proofs.Ytgmpdkefegofhaa.PFnExactRecover
