-- Written by xprint.py, a program of this session over the kit's print. Not trusted: Lean checks it.
import Derived.Test.YtgmpdkefegofhaaPFnRecoveredx0
import Derived.Test.YtgmpdkefegofhaaPFnRecoveredx2
import Derived.Test.YtgmpdkefegofhaaPFnRecoveredx4
namespace Go.Proofs.Ytgmpdkefegofhaa.PFnRecovered
open Go.RowKit Go.Proofs.YtgmpdkefegofhaaW.PrintWords Go.Proofs.YtgmpdkefegofhaaW.PrintLast Go.Proofs.YtgmpdkefegofhaaW.PrintMore
attribute [local go_sem] max2_int min2_int max_two min_two max_three min_three max_four min_four   -- for this text's walks alone
set_option linter.unusedVariables false
set_option linter.unusedSimpArgs false

/-! ### spec_HeadOf: function 84 -/
mutual
def spec_HeadOf.j0 : Nat → Int → List Int → Int → Int → Bool → Option (List Int × Int × Bool)
 | 0, _, _, _, _, _ => none
 | k + 1, x1, x7, x8, x9, x38 => if x38 = true then (some ((([] : List Int)), 0, false)) else (spec_HeadOf.l0 k x1 x7 x8 x9 (([] : List Int)) (([] : List (S65))) 0)
def spec_HeadOf.l0 : Nat → Int → List Int → Int → Int → List Int → List (S65) → Int → Option (List Int × Int × Bool)
 | 0, _, _, _, _, _, _, _ => none
 | k + 1, x1, x7, x8, x9, x11, x12, x13 => if x13 < x8 then ((spec_GetNum.f k x7 x9).bind fun bt172 => (if bt172.2.2 = true then (if x11.length < 17592186044416 then (if x12.length < 5864062014805 then (spec_HeadOf.l0 k x1 x7 x8 bt172.2.1 (x11 ++ [bt172.1]) (x12 ++ [(⟨bt172.1, (⟨#[]⟩ : ByteArray)⟩ : S65)]) (wrap64 (x13 + 1))) else (none)) else (none)) else (some ((([] : List Int)), 0, false)))) else (if (x7.length : Int) = (wrap64 (x9 + 4)) then ((spec_TxOk.f k x1 x12).bind fun t184 => (if t184 = true then (if 0 ≤ x9 then (if x9 < (x7.length : Int) then (if 0 ≤ (wrap64 (x9 + 1)) then (if (wrap64 (x9 + 1)) < (x7.length : Int) then (if 0 ≤ (wrap64 (x9 + 2)) then (if (wrap64 (x9 + 2)) < (x7.length : Int) then (if 0 ≤ (wrap64 (x9 + 3)) then (if (wrap64 (x9 + 3)) < (x7.length : Int) then (some (x11, wrap64 ((wrap64 ((wrap64 ((wrap64 ((wrap64 ((wrap64 ((wrap64 (rd x7 x9)) * 256)) + (wrap64 (rd x7 (wrap64 (x9 + 1)))))) * 256)) + (wrap64 (rd x7 (wrap64 (x9 + 2)))))) * 256)) + (wrap64 (rd x7 (wrap64 (x9 + 3))))), true)) else (none)) else (none)) else (none)) else (none)) else (none)) else (none)) else (none)) else (none)) else (some ((([] : List Int)), 0, false)))) else (some ((([] : List Int)), 0, false)))
end
def spec_HeadOf.f (k : Nat) (a0 : ByteArray) (a1 : Int) : Option (List Int × Int × Bool) := if a0.size ≤ 9223372036854775807 then ((some (bytesOf a0 : List Int)).bind fun y155 => ((spec_GetNum.f k y155 1).bind fun bt158 => (if bt158.2.2 = true then (if 0 < (y155.length : Int) then (if (rd y155 0) = 74 then ((spec_l1In.f bt158.1 1 48).bind fun t162 => (spec_HeadOf.j0 k a1 y155 bt158.1 bt158.2.1 (!t162))) else (spec_HeadOf.j0 k a1 y155 bt158.1 bt158.2.1 true)) else (none)) else (spec_HeadOf.j0 k a1 y155 bt158.1 bt158.2.1 true)))) else (none)
theorem spec_HeadOf.mono_l : ∀ k, (∀ y0 y1 y2 y3 y4, LeO (spec_HeadOf.j0 k y0 y1 y2 y3 y4) (spec_HeadOf.j0 (k + 1) y0 y1 y2 y3 y4)) ∧ (∀ y0 y1 y2 y3 y4 y5 y6, LeO (spec_HeadOf.l0 k y0 y1 y2 y3 y4 y5 y6) (spec_HeadOf.l0 (k + 1) y0 y1 y2 y3 y4 y5 y6))
 | 0 => ⟨fun _ _ _ _ _ r h => by simp [spec_HeadOf.j0] at h, fun _ _ _ _ _ _ _ r h => by simp [spec_HeadOf.l0] at h⟩
 | k + 1 => by
  obtain ⟨ih0, ih1⟩ := spec_HeadOf.mono_l k
  refine ⟨?_, ?_⟩
  ·intro y0 y1 y2 y3 y4
   unfold spec_HeadOf.j0
   have m0_ := @spec_GetNum.mono
   have m1_ := @spec_TxOk.mono
   exact mM
  ·intro y0 y1 y2 y3 y4 y5 y6
   unfold spec_HeadOf.l0
   have m0_ := @spec_GetNum.mono
   have m1_ := @spec_TxOk.mono
   exact mM
theorem spec_HeadOf.mono : ∀ a0 a1 k, LeO (spec_HeadOf.f k a0 a1) (spec_HeadOf.f (k + 1) a0 a1) := by
 intro a0 a1 k
 obtain ⟨ih0, ih1⟩ := spec_HeadOf.mono_l k
 unfold spec_HeadOf.f
 have m0_ := @spec_GetNum.mono
 have m1_ := @spec_TxOk.mono
 exact mM
set_option maxHeartbeats 8000000 in
set_option maxRecDepth 100000 in
theorem spec_HeadOf.calls (k : Nat) (a0 : ByteArray) (a1 : Int) (r1 : List Int) (r2 : Int) (r3 : Bool) (w : World) (h : spec_HeadOf.f k a0 a1 = some (r1, r2, r3)) :
  Calls Try.prog 84 #[.string a0, .int .i64 a1] w fun e w' => ∃ v0_ : Value, e = .returned (.tuple #[v0_, .int .i64 r2, .bool r3]) ∧ Kd.R (Kd.int .i64) 3 w' w.heap.size (fun _ => True) v0_ r1 ∧ Below w.heap.size w w' := by
 have hu65 := Try.underlying65
 have HB := aM (Below.refl w.heap.size w)
 unfold spec_HeadOf.f at h
 have H := h
 clear h
 by_cases c3 : a0.size ≤ 9223372036854775807
 ·rw [if_pos c3] at H
  have c3b0 := eq_true c3
  have c3b1 : decide (a0.size ≤ 9223372036854775807) = true := decide_eq_true c3
  try have c3b2 : (9223372036854775807 < a0.size) = False := eq_false (Nat.not_lt.2 c3)
  clear c3
  obtain ⟨y155, hy155⟩ : ∃ y_ : List Int, y_ = (bytesOf a0) := ⟨_, rfl⟩
  replace H : ((spec_GetNum.f k y155 1).bind fun bt158 => (if bt158.2.2 = true then (if 0 < (y155.length : Int) then (if (rd y155 0) = 74 then ((spec_l1In.f bt158.1 1 48).bind fun t162 => (spec_HeadOf.j0 k a1 y155 bt158.1 bt158.2.1 (!t162))) else (spec_HeadOf.j0 k a1 y155 bt158.1 bt158.2.1 true)) else (none)) else (spec_HeadOf.j0 k a1 y155 bt158.1 bt158.2.1 true))) = some (r1, r2, r3) := bQ hy155 H
  have Ny155 := aM hy155
  clear hy155
  replace H := Option.bind_eq_some_iff.mp H
  obtain ⟨⟨t158, t159, t160⟩, A40, H⟩ := H
  try dsimp only at H
  have A4 := aM A40
  clear A40
  have HC5 := aM H
  clear H
  go_enter Try.func84, Try.ntmps84
  go_upto_region 3 with (first | ((with_reducible refine gate_dst (N := 19) rfl ?_); refine V_bytes 5 rfl (N' := 19) rfl 9 60 _ rfl a0 rfl Try.underlying9 Try.underlying60 Try.underlying5 (by first | (with_reducible assumption) | assumption | exact dT) ?_; intro v156 w6 ho7 hb hg_ hnew_; clear hg_ hnew_; (first | rw [← Ny155.out] at ho7 | (simp only [Int.reduceToNat] at ho7; rw [← Ny155.out] at ho7)); have n_ := aI (aM (Kd.V_lower (Kd.V_mono (ok' := fun k_ => True) ho7 (fun k_ hk_ => trivial)) (zB HB))) (sB HB hb); clear HB; obtain ⟨HO157, HB⟩ := n_; (try clear hb ho7); obtain ⟨Ao8, co8, eo8⟩ := Kd.V_slice HO157.out; subst eo8) | (go_at_call 113; (with_reducible refine (spec_GetNum.calls k _ _ y155 1 t158 t159 t160 _ ?side1 ?side2 A4.out).mono ?_); (case side1 => repeat (first | exact (Kd.V_reads' HO157.out).2.2 | (with_reducible refine Kd.C_alloc ?_ _) | (with_reducible refine Kd.C_drewN ?_ _) | (with_reducible refine Kd.C_drew ?_))); (case side2 => exact (Kd.V_reads' HO157.out).2.1); rintro e w' ⟨rfl, ⟨nd, rfl⟩⟩; (try first | exact ⟨rfl, _, World.drewN_drewN _ _ _⟩ | exact ⟨rfl, _, Eq.trans (World.drewN_drewN _ _ _) (congrArg (World.drewN _) (Nat.add_assoc _ _ _))⟩)))
  repeat (go_quiet (first | ((with_reducible refine gate_dst (N := 19) rfl ?_); refine V_bytes 5 rfl (N' := 19) rfl 9 60 _ rfl a0 rfl Try.underlying9 Try.underlying60 Try.underlying5 (by first | (with_reducible assumption) | assumption | exact dT) ?_; intro v156 w6 ho7 hb hg_ hnew_; clear hg_ hnew_; (first | rw [← Ny155.out] at ho7 | (simp only [Int.reduceToNat] at ho7; rw [← Ny155.out] at ho7)); have n_ := aI (aM (Kd.V_lower (Kd.V_mono (ok' := fun k_ => True) ho7 (fun k_ hk_ => trivial)) (zB HB))) (sB HB hb); clear HB; obtain ⟨HO157, HB⟩ := n_; (try clear hb ho7); obtain ⟨Ao8, co8, eo8⟩ := Kd.V_slice HO157.out; subst eo8) | (go_at_call 113; (with_reducible refine (spec_GetNum.calls k _ _ y155 1 t158 t159 t160 _ ?side1 ?side2 A4.out).mono ?_); (case side1 => repeat (first | exact (Kd.V_reads' HO157.out).2.2 | (with_reducible refine Kd.C_alloc ?_ _) | (with_reducible refine Kd.C_drewN ?_ _) | (with_reducible refine Kd.C_drew ?_))); (case side2 => exact (Kd.V_reads' HO157.out).2.1); rintro e w' ⟨rfl, ⟨nd, rfl⟩⟩; (try first | exact ⟨rfl, _, World.drewN_drewN _ _ _⟩ | exact ⟨rfl, _, Eq.trans (World.drewN_drewN _ _ _) (congrArg (World.drewN _) (Nat.add_assoc _ _ _))⟩))); go_upto_region 3 with (first | ((with_reducible refine gate_dst (N := 19) rfl ?_); refine V_bytes 5 rfl (N' := 19) rfl 9 60 _ rfl a0 rfl Try.underlying9 Try.underlying60 Try.underlying5 (by first | (with_reducible assumption) | assumption | exact dT) ?_; intro v156 w6 ho7 hb hg_ hnew_; clear hg_ hnew_; (first | rw [← Ny155.out] at ho7 | (simp only [Int.reduceToNat] at ho7; rw [← Ny155.out] at ho7)); have n_ := aI (aM (Kd.V_lower (Kd.V_mono (ok' := fun k_ => True) ho7 (fun k_ hk_ => trivial)) (zB HB))) (sB HB hb); clear HB; obtain ⟨HO157, HB⟩ := n_; (try clear hb ho7); obtain ⟨Ao8, co8, eo8⟩ := Kd.V_slice HO157.out; subst eo8) | (go_at_call 113; (with_reducible refine (spec_GetNum.calls k _ _ y155 1 t158 t159 t160 _ ?side1 ?side2 A4.out).mono ?_); (case side1 => repeat (first | exact (Kd.V_reads' HO157.out).2.2 | (with_reducible refine Kd.C_alloc ?_ _) | (with_reducible refine Kd.C_drewN ?_ _) | (with_reducible refine Kd.C_drew ?_))); (case side2 => exact (Kd.V_reads' HO157.out).2.1); rintro e w' ⟨rfl, ⟨nd, rfl⟩⟩; (try first | exact ⟨rfl, _, World.drewN_drewN _ _ _⟩ | exact ⟨rfl, _, Eq.trans (World.drewN_drewN _ _ _) (congrArg (World.drewN _) (Nat.add_assoc _ _ _))⟩))))
  (try simp only [Act.put, List.setIfInBounds_toArray, List.set_cons_zero, List.set_cons_succ])
  go_cut [38] (fun v38 wc => ∃ (kq : Nat) (x38_4 : Bool), v38 = .bool x38_4 ∧ Aside0 (spec_HeadOf.j0 kq a1 y155 t158 t159 x38_4 = some (r1, r2, r3)) ∧ Aside0 (kq ≤ k) ∧ Aside0 (Kd.V (Kd.int .u8) 5 wc w.heap.size (fun _ => True) (.slice Ao8 y155.length co8) y155) ∧ Aside0 (Below w.heap.size w wc))
  case first =>
   have H := HC5.out
   clear HC5
   by_cases c9 : t160 = true
   ·subst c9
    rw [if_pos rfl] at H
    by_cases c10 : 0 < (y155.length : Int)
    ·rw [if_pos c10] at H
     have c10b0 : decide (0 < (y155.length : Int)) = true := decide_eq_true c10
     have c10b1 : decide (0 < y155.length) = true := decide_eq_true (by omega)
     clear c10
     (first | rw [c10b0] | (simp only [i64_w, i32_w]; rw [c10b0]) | rw [c10b1] | rw [c10b2] | skip)
     by_cases c11 : (rd y155 0) = 74
     ·rw [if_pos c11] at H
      have c11b0 : ((rd y155 0) == 74) = true := beq_iff_eq.mpr c11
      have c11b1 : ((rd y155 0) != 74) = false := bne_eq_false_iff_eq.mpr c11
      clear c11
      replace H := Option.bind_eq_some_iff.mp H
      obtain ⟨t162, A120, H⟩ := H
      try dsimp only at H
      have A12 := aM A120
      clear A120
      have H' := aM H
      clear H
      have p161 : 0 ≤ (0 : Int) := (by omega)
      have q161 : 0 < (y155.length : Int) := dT
      obtain ⟨ad161, e161, hx161_0⟩ := Kd.at_int (Kd.V_reads' HO157.out).2.2 0 p161 q161
      cases e161
      have qi161 : (0 < y155.length) = True := eq_true (by omega)
      (try rw [show ((0 : Int)).toNat = 0 from rfl] at hx161_0)
      (try rw [Addr.add_zero'] at hx161_0)
      replace p161 := eq_true p161
      replace q161 := eq_true q161
      go_wp2_with (first | (go_at_call 69; (with_reducible refine (spec_l1In.calls t158 1 48 t162 _ A12.out).mono ?_); rintro e w' ⟨rfl, ⟨nd, rfl⟩⟩; (try first | exact ⟨rfl, _, World.drewN_drewN _ _ _⟩ | exact ⟨rfl, _, Eq.trans (World.drewN_drewN _ _ _) (congrArg (World.drewN _) (Nat.add_assoc _ _ _))⟩)))
      repeat (go_quiet (first | (go_at_call 69; (with_reducible refine (spec_l1In.calls t158 1 48 t162 _ A12.out).mono ?_); rintro e w' ⟨rfl, ⟨nd, rfl⟩⟩; (try first | exact ⟨rfl, _, World.drewN_drewN _ _ _⟩ | exact ⟨rfl, _, Eq.trans (World.drewN_drewN _ _ _) (congrArg (World.drewN _) (Nat.add_assoc _ _ _))⟩))); try go_wp2_with (first | (go_at_call 69; (with_reducible refine (spec_l1In.calls t158 1 48 t162 _ A12.out).mono ?_); rintro e w' ⟨rfl, ⟨nd, rfl⟩⟩; (try first | exact ⟨rfl, _, World.drewN_drewN _ _ _⟩ | exact ⟨rfl, _, Eq.trans (World.drewN_drewN _ _ _) (congrArg (World.drewN _) (Nat.add_assoc _ _ _))⟩))))
      go_meet
      case rel => exact ⟨_, (!t162), (by first | rfl | (simp; done) | (simp [*]; done) | (simp; exact (by intro l_; cases l_ <;> rfl : ∀ l_ : List UInt8, l_.isEmpty = !(l_ != [])) _)), H', ⟨by first | omega | exact Nat.le_refl _⟩, ⟨by (with_reducible repeat (first | apply Kd.V_alloc | apply Kd.V_drewN | apply Kd.V_drew)); exact HO157.out⟩, ⟨bB⟩⟩
     rw [if_neg c11] at H
     have c11b0 : ((rd y155 0) == 74) = false := beq_eq_false_iff_ne.mpr c11
     have c11b1 : ((rd y155 0) != 74) = true := bne_iff_ne.mpr c11
     have H' := aM H
     clear H
     have p161 : 0 ≤ (0 : Int) := (by omega)
     have q161 : 0 < (y155.length : Int) := dT
     obtain ⟨ad161, e161, hx161_0⟩ := Kd.at_int (Kd.V_reads' HO157.out).2.2 0 p161 q161
     cases e161
     have qi161 : (0 < y155.length) = True := eq_true (by omega)
     (try rw [show ((0 : Int)).toNat = 0 from rfl] at hx161_0)
     (try rw [Addr.add_zero'] at hx161_0)
     replace p161 := eq_true p161
     replace q161 := eq_true q161
     go_wp2
     repeat (go_quiet (fail); try go_wp2)
     go_meet
     case rel => exact ⟨_, (true), (by first | rfl | (simp; done) | (simp [*]; done) | (simp; exact (by intro l_; cases l_ <;> rfl : ∀ l_ : List UInt8, l_.isEmpty = !(l_ != [])) _)), H', ⟨by first | omega | exact Nat.le_refl _⟩, ⟨by (with_reducible repeat (first | apply Kd.V_alloc | apply Kd.V_drewN | apply Kd.V_drew)); exact HO157.out⟩, ⟨bB⟩⟩
    rw [if_neg c10] at H
    exact absurd H (by simp)
   replace c9 := Bool.eq_false_iff.mpr c9
   subst c9
   rw [if_neg (show ¬ (false = true) by decide)] at H
   have H' := aM H
   clear H
   go_wp2
   repeat (go_quiet (fail); try go_wp2)
   go_meet
   case rel => exact ⟨_, (true), (by first | rfl | (simp; done) | (simp [*]; done) | (simp; exact (by intro l_; cases l_ <;> rfl : ∀ l_ : List UInt8, l_.isEmpty = !(l_ != [])) _)), H', ⟨by first | omega | exact Nat.le_refl _⟩, ⟨by (with_reducible repeat (first | apply Kd.V_alloc | apply Kd.V_drewN | apply Kd.V_drew)); exact HO157.out⟩, ⟨bB⟩⟩
  case rest =>
   clear HC5
   try clear c1
   try clear p1
   try clear q1
   try clear hx1
   try clear qi1
   try clear p2
   try clear c3
   try clear c3b0
   try clear c3b1
   try clear c3b2
   try clear c8
   try clear c9
   try clear c10
   try clear c10b0
   try clear c10b1
   try clear c10b2
   try clear c11
   try clear c11b0
   try clear c11b1
   try clear hx161_0
   try clear p161
   try clear q161
   obtain ⟨kq, x38_4, rfl, HA, HJ4, HO_7, HB⟩ := hcut
   cases kq with
   | zero => exact absurd HA.out (by simp [spec_HeadOf.j0])
   | succ kj4 =>
    have H := HA.out
    clear HA
    simp only [spec_HeadOf.j0] at H
    by_cases c13 : x38_4 = true
    ·subst c13
     rw [if_pos rfl] at H
     obtain ⟨y163, hy163⟩ : ∃ y_ : List Int, y_ = (([] : List Int)) := ⟨_, rfl⟩
     replace H : (some (y163, 0, false)) = some (r1, r2, r3) := bQ hy163 H
     have Ny163 := aM hy163
     clear hy163
     simp only [Option.some.injEq, Prod.mk.injEq] at H
     obtain ⟨rfl, rfl, rfl⟩ := H
     go_wp2_with (first | ((with_reducible refine gate_dst (N := 39) rfl ?_); refine Kd.R_lit (Kd.int .i64) _ 3 ?hg (N := 39) ?hd (xs := ([] : List Int)) (inner := []) (ok := fun _ => True) (okp := fun _ => True) ?hr ?hp (fun _ hk => hk) trivial (Below.refl _ _) (Nat.le_refl _) (by simp) ?_; (case hd => rfl); (case hg => rfl); (case hr => first | (go_simp; done) | (go_simp; rfl)); (case hp => exact (Reps.none _ _)); intro v164 w14 ho15 hb hg_ hnew_; clear hg_ hnew_; (first | rw [← Ny163.out] at ho15 | (simp only [Int.reduceToNat] at ho15; rw [← Ny163.out] at ho15)); have n_ := aI (aM (Kd.V_elder' (by (with_reducible repeat (first | apply Kd.V_alloc | apply Kd.V_drewN | apply Kd.V_drew)); exact HO_7.out) (Kd.R_base ho15) hb)) (aI (lR HB ho15) (sB HB hb)); clear HO_7 HB; obtain ⟨HO_7, HO165, HB⟩ := n_; (try clear hb ho15)))
     repeat (go_quiet (first | ((with_reducible refine gate_dst (N := 39) rfl ?_); refine Kd.R_lit (Kd.int .i64) _ 3 ?hg (N := 39) ?hd (xs := ([] : List Int)) (inner := []) (ok := fun _ => True) (okp := fun _ => True) ?hr ?hp (fun _ hk => hk) trivial (Below.refl _ _) (Nat.le_refl _) (by simp) ?_; (case hd => rfl); (case hg => rfl); (case hr => first | (go_simp; done) | (go_simp; rfl)); (case hp => exact (Reps.none _ _)); intro v164 w14 ho15 hb hg_ hnew_; clear hg_ hnew_; (first | rw [← Ny163.out] at ho15 | (simp only [Int.reduceToNat] at ho15; rw [← Ny163.out] at ho15)); have n_ := aI (aM (Kd.V_elder' (by (with_reducible repeat (first | apply Kd.V_alloc | apply Kd.V_drewN | apply Kd.V_drew)); exact HO_7.out) (Kd.R_base ho15) hb)) (aI (lR HB ho15) (sB HB hb)); clear HO_7 HB; obtain ⟨HO_7, HO165, HB⟩ := n_; (try clear hb ho15))); try go_wp2_with (first | ((with_reducible refine gate_dst (N := 39) rfl ?_); refine Kd.R_lit (Kd.int .i64) _ 3 ?hg (N := 39) ?hd (xs := ([] : List Int)) (inner := []) (ok := fun _ => True) (okp := fun _ => True) ?hr ?hp (fun _ hk => hk) trivial (Below.refl _ _) (Nat.le_refl _) (by simp) ?_; (case hd => rfl); (case hg => rfl); (case hr => first | (go_simp; done) | (go_simp; rfl)); (case hp => exact (Reps.none _ _)); intro v164 w14 ho15 hb hg_ hnew_; clear hg_ hnew_; (first | rw [← Ny163.out] at ho15 | (simp only [Int.reduceToNat] at ho15; rw [← Ny163.out] at ho15)); have n_ := aI (aM (Kd.V_elder' (by (with_reducible repeat (first | apply Kd.V_alloc | apply Kd.V_drewN | apply Kd.V_drew)); exact HO_7.out) (Kd.R_base ho15) hb)) (aI (lR HB ho15) (sB HB hb)); clear HO_7 HB; obtain ⟨HO_7, HO165, HB⟩ := n_; (try clear hb ho15))))
     go_ret3
     exact ⟨_, eW, by (with_reducible repeat (first | apply Kd.R_alloc | apply Kd.R_drewN | apply Kd.R_drew)); exact HO165.out, bB⟩
    ·replace c13 := Bool.eq_false_iff.mpr c13
     subst c13
     rw [if_neg (show ¬ (false = true) by decide)] at H
     obtain ⟨y166, hy166⟩ : ∃ y_ : List Int, y_ = (([] : List Int)) := ⟨_, rfl⟩
     replace H : (spec_HeadOf.l0 kj4 a1 y155 t158 t159 y166 (([] : List (S65))) 0) = some (r1, r2, r3) := bQ hy166 H
     have Ny166 := aM hy166
     clear hy166
     obtain ⟨y169, hy169⟩ : ∃ y_ : List (S65), y_ = (([] : List (S65))) := ⟨_, rfl⟩
     replace H : (spec_HeadOf.l0 kj4 a1 y155 t158 t159 y166 y169 0) = some (r1, r2, r3) := bQ hy169 H
     have Ny169 := aM hy169
     clear hy169
     have H' := aM H
     clear H
     go_wp2_with (first | ((with_reducible refine gate_dst (N := 40) rfl ?_); refine Kd.R_lit (Kd.int .i64) _ 3 ?hg (N := 40) ?hd (xs := ([] : List Int)) (inner := []) (ok := fun _ => True) (okp := fun _ => True) ?hr ?hp (fun _ hk => hk) trivial (Below.refl _ _) (Nat.le_refl _) (by simp) ?_; (case hd => rfl); (case hg => rfl); (case hr => first | (go_simp; done) | (go_simp; rfl)); (case hp => exact (Reps.none _ _)); intro v167 w16 ho17 hb hg_ hnew_; clear hg_ hnew_; (first | rw [← Ny166.out] at ho17 | (simp only [Int.reduceToNat] at ho17; rw [← Ny166.out] at ho17)); have n_ := aI (aM (Kd.V_elder' (by (with_reducible repeat (first | apply Kd.V_alloc | apply Kd.V_drewN | apply Kd.V_drew)); exact HO_7.out) (Kd.R_base ho17) hb)) (aI (lR HB ho17) (sB HB hb)); clear HO_7 HB; obtain ⟨HO_7, HO168, HB⟩ := n_; (try clear hb ho17)) | ((with_reducible refine gate_dst (N := 41) rfl ?_); refine Kd.R_lit k65 _ 65 ?hg (N := 41) ?hd (xs := ([] : List (S65))) (inner := []) (ok := fun _ => True) (okp := fun _ => True) ?hr ?hp (fun _ hk => hk) trivial (Below.refl _ _) (Nat.le_refl _) (by simp) ?_; (case hd => rfl); (case hg => rfl); (case hr => first | (go_simp; done) | (go_simp; rfl)); (case hp => exact (Reps.none _ _)); intro v170 w18 ho19 hb hg_ hnew_; clear hg_ hnew_; (first | rw [← Ny169.out] at ho19 | (simp only [Int.reduceToNat] at ho19; rw [← Ny169.out] at ho19)); have n_ := aI (aM (Kd.V_elder' (by (with_reducible repeat (first | apply Kd.V_alloc | apply Kd.V_drewN | apply Kd.V_drew)); exact HO_7.out) (Kd.R_base ho19) hb)) (aI (rB HO168 hb) (aI (lR HB ho19) (sB HB hb))); clear HO_7 HO168 HB; obtain ⟨HO_7, HO168, HO171, HB⟩ := n_; (try clear hb ho19)))
     repeat (go_quiet (first | ((with_reducible refine gate_dst (N := 40) rfl ?_); refine Kd.R_lit (Kd.int .i64) _ 3 ?hg (N := 40) ?hd (xs := ([] : List Int)) (inner := []) (ok := fun _ => True) (okp := fun _ => True) ?hr ?hp (fun _ hk => hk) trivial (Below.refl _ _) (Nat.le_refl _) (by simp) ?_; (case hd => rfl); (case hg => rfl); (case hr => first | (go_simp; done) | (go_simp; rfl)); (case hp => exact (Reps.none _ _)); intro v167 w16 ho17 hb hg_ hnew_; clear hg_ hnew_; (first | rw [← Ny166.out] at ho17 | (simp only [Int.reduceToNat] at ho17; rw [← Ny166.out] at ho17)); have n_ := aI (aM (Kd.V_elder' (by (with_reducible repeat (first | apply Kd.V_alloc | apply Kd.V_drewN | apply Kd.V_drew)); exact HO_7.out) (Kd.R_base ho17) hb)) (aI (lR HB ho17) (sB HB hb)); clear HO_7 HB; obtain ⟨HO_7, HO168, HB⟩ := n_; (try clear hb ho17)) | ((with_reducible refine gate_dst (N := 41) rfl ?_); refine Kd.R_lit k65 _ 65 ?hg (N := 41) ?hd (xs := ([] : List (S65))) (inner := []) (ok := fun _ => True) (okp := fun _ => True) ?hr ?hp (fun _ hk => hk) trivial (Below.refl _ _) (Nat.le_refl _) (by simp) ?_; (case hd => rfl); (case hg => rfl); (case hr => first | (go_simp; done) | (go_simp; rfl)); (case hp => exact (Reps.none _ _)); intro v170 w18 ho19 hb hg_ hnew_; clear hg_ hnew_; (first | rw [← Ny169.out] at ho19 | (simp only [Int.reduceToNat] at ho19; rw [← Ny169.out] at ho19)); have n_ := aI (aM (Kd.V_elder' (by (with_reducible repeat (first | apply Kd.V_alloc | apply Kd.V_drewN | apply Kd.V_drew)); exact HO_7.out) (Kd.R_base ho19) hb)) (aI (rB HO168 hb) (aI (lR HB ho19) (sB HB hb))); clear HO_7 HO168 HB; obtain ⟨HO_7, HO168, HO171, HB⟩ := n_; (try clear hb ho19))); try go_wp2_with (first | ((with_reducible refine gate_dst (N := 40) rfl ?_); refine Kd.R_lit (Kd.int .i64) _ 3 ?hg (N := 40) ?hd (xs := ([] : List Int)) (inner := []) (ok := fun _ => True) (okp := fun _ => True) ?hr ?hp (fun _ hk => hk) trivial (Below.refl _ _) (Nat.le_refl _) (by simp) ?_; (case hd => rfl); (case hg => rfl); (case hr => first | (go_simp; done) | (go_simp; rfl)); (case hp => exact (Reps.none _ _)); intro v167 w16 ho17 hb hg_ hnew_; clear hg_ hnew_; (first | rw [← Ny166.out] at ho17 | (simp only [Int.reduceToNat] at ho17; rw [← Ny166.out] at ho17)); have n_ := aI (aM (Kd.V_elder' (by (with_reducible repeat (first | apply Kd.V_alloc | apply Kd.V_drewN | apply Kd.V_drew)); exact HO_7.out) (Kd.R_base ho17) hb)) (aI (lR HB ho17) (sB HB hb)); clear HO_7 HB; obtain ⟨HO_7, HO168, HB⟩ := n_; (try clear hb ho17)) | ((with_reducible refine gate_dst (N := 41) rfl ?_); refine Kd.R_lit k65 _ 65 ?hg (N := 41) ?hd (xs := ([] : List (S65))) (inner := []) (ok := fun _ => True) (okp := fun _ => True) ?hr ?hp (fun _ hk => hk) trivial (Below.refl _ _) (Nat.le_refl _) (by simp) ?_; (case hd => rfl); (case hg => rfl); (case hr => first | (go_simp; done) | (go_simp; rfl)); (case hp => exact (Reps.none _ _)); intro v170 w18 ho19 hb hg_ hnew_; clear hg_ hnew_; (first | rw [← Ny169.out] at ho19 | (simp only [Int.reduceToNat] at ho19; rw [← Ny169.out] at ho19)); have n_ := aI (aM (Kd.V_elder' (by (with_reducible repeat (first | apply Kd.V_alloc | apply Kd.V_drewN | apply Kd.V_drew)); exact HO_7.out) (Kd.R_base ho19) hb)) (aI (rB HO168 hb) (aI (lR HB ho19) (sB HB hb))); clear HO_7 HO168 HB; obtain ⟨HO_7, HO168, HO171, HB⟩ := n_; (try clear hb ho19))))
     go_loopg [9, 11, 12, 13] kj4 (fun kq v9 v11 v12 v13 w' => ∃ (x9_2 : Int) (x11_2 : List Int) (x12_2 : List (S65)) (x13_2 : Int), v9 = .int .i64 x9_2 ∧ v13 = .int .i64 x13_2 ∧ Aside0 (spec_HeadOf.l0 kq a1 y155 t158 x9_2 x11_2 x12_2 x13_2 = some (r1, r2, r3)) ∧ Aside0 (kq ≤ kj4) ∧ Aside0 (Kd.V (Kd.int .u8) 5 w' w.heap.size (fun k_ => some k_ ≠ (v11 : Value).ownBlock ∧ some k_ ≠ (v12 : Value).ownBlock) (.slice Ao8 y155.length co8) y155) ∧ Aside0 (Kd.R (Kd.int .i64) 3 w' w.heap.size (fun _ => True) v11 x11_2) ∧ Aside0 (Kd.R k65 65 w' w.heap.size (fun _ => True) v12 x12_2) ∧ Aside0 (Below w.heap.size w w'))
     case atStart => exact ⟨(t159), (y166), (y169), (0), (by first | rfl | (simp; done) | (simp [*]; done) | (simp; exact (by intro l_; cases l_ <;> rfl : ∀ l_ : List UInt8, l_.isEmpty = !(l_ != [])) _)), (by first | rfl | (simp; done) | (simp [*]; done) | (simp; exact (by intro l_; cases l_ <;> rfl : ∀ l_ : List UInt8, l_.isEmpty = !(l_ != [])) _)), H', ⟨Nat.le_refl _⟩, ⟨by (with_reducible repeat (first | apply Kd.V_alloc | apply Kd.V_drewN | apply Kd.V_drew)); exact Kd.V_mono HO_7.out (fun _ hk => ⟨hk.1.2, hk.2⟩)⟩, ⟨rP HO168.out⟩, ⟨rP HO171.out⟩, ⟨bB⟩⟩
     case round =>
      clear H'
      try clear c1
      try clear p1
      try clear q1
      try clear hx1
      try clear qi1
      try clear p2
      try clear c3
      try clear c3b0
      try clear c3b1
      try clear c3b2
      try clear c8
      try clear c9
      try clear c10
      try clear c10b0
      try clear c10b1
      try clear c10b2
      try clear c11
      try clear c11b0
      try clear c11b1
      try clear c13
      try clear p16
      try clear q16
      try clear hx16
      try clear qi16
      try clear hx161_0
      try clear p1
      try clear p161
      try clear p2
      try clear q1
      try clear q161
      obtain ⟨x9_2, x11_2, x12_2, x13_2, rfl, rfl, HA, HK2, HO_7, HO_11, HO_12, HB⟩ := hrel
      cases gk with
      | zero => exact absurd HA.out (by simp [spec_HeadOf.l0])
      | succ k2 =>
       have H := HA.out
       clear HA
       simp only [spec_HeadOf.l0] at H
       by_cases c20 : x13_2 < t158
       ·rw [if_pos c20] at H
        have c20b0 : decide (x13_2 < t158) = true := decide_eq_true c20
        clear c20
        replace H := Option.bind_eq_some_iff.mp H
        obtain ⟨⟨t172, t173, t174⟩, A210, H⟩ := H
        try dsimp only at H
        have A21 := aM A210
        clear A210
        by_cases c22 : t174 = true
        ·subst c22
         rw [if_pos rfl] at H
         by_cases c23 : x11_2.length < 17592186044416
         ·rw [if_pos c23] at H
          have LMc23 := aM c23
          clear c23
          obtain ⟨y175, hy175⟩ : ∃ y_ : List Int, y_ = (x11_2 ++ [t172]) := ⟨_, rfl⟩
          replace H : (if x12_2.length < 5864062014805 then (spec_HeadOf.l0 k2 a1 y155 t158 t173 y175 (x12_2 ++ [(⟨t172, (⟨#[]⟩ : ByteArray)⟩ : S65)]) (wrap64 (x13_2 + 1))) else (none)) = some (r1, r2, r3) := bQ hy175 H
          have Ny175 := aM hy175
          clear hy175
          by_cases c24 : x12_2.length < 5864062014805
          ·rw [if_pos c24] at H
           have LMc24 := aM c24
           clear c24
           obtain ⟨y178, hy178⟩ : ∃ y_ : List (S65), y_ = (x12_2 ++ [(⟨t172, (⟨#[]⟩ : ByteArray)⟩ : S65)]) := ⟨_, rfl⟩
           replace H : (spec_HeadOf.l0 k2 a1 y155 t158 t173 y175 y178 (wrap64 (x13_2 + 1))) = some (r1, r2, r3) := bQ hy178 H
           have Ny178 := aM hy178
           clear hy178
           have H' := aM H
           clear H
           go_wp2_with (first | (go_at_call 113; (with_reducible refine (spec_GetNum.calls k2 _ _ y155 x9_2 t172 t173 true _ ?side1 ?side2 A21.out).mono ?_); (case side1 => repeat (first | exact (Kd.V_reads' HO_7.out).2.2 | (with_reducible refine Kd.C_alloc ?_ _) | (with_reducible refine Kd.C_drewN ?_ _) | (with_reducible refine Kd.C_drew ?_))); (case side2 => exact (Kd.V_reads' HO_7.out).2.1); rintro e w' ⟨rfl, ⟨nd, rfl⟩⟩; (try first | exact ⟨rfl, _, World.drewN_drewN _ _ _⟩ | exact ⟨rfl, _, Eq.trans (World.drewN_drewN _ _ _) (congrArg (World.drewN _) (Nat.add_assoc _ _ _))⟩)) | ((with_reducible refine gate_builtin (b := .append) (xs := #[.tmp 57, .tmp 59]) rfl ?_); at_builtin; refine Kd.R_append (Kd.int .i64) (w0 := w) w.heap.size rfl (.tmp 57) (.tmp 59) 95 3 (.int .i64 0) 8 rfl Try.underlying95 info3 rfl (by decide) (by omega) u11 x11_2 t172 [.int .i64 t172] (fun _ => True) (fun _ => False) rfl rfl ?aP (fun _ hk => hk.elim) ?aF ?aO ?aB ?aS ?aL ?_; (case aP => exact rfl); (case aB => exact bB); (case aF => exact (fun _ _ => trivial)); (case aO => exact (rP HO_11.out)); (case aS => exact (zB HB)); (case aL => have := LMc23.out; omega); intro v176 w25 ho hb hg hat; rw [← Ny175.out] at ho; have n_ := aI (aM (Kd.V_afterv (ok := (fun k_ => some k_ ≠ (u12 : Value).ownBlock)) (by (with_reducible repeat (first | apply Kd.V_alloc | apply Kd.V_drewN | apply Kd.V_drew)); exact Kd.V_mono HO_7.out (fun _ hk => ⟨hk.2, hk.1⟩)) hg hat)) (aI (aM (Kd.R_over' (rP HO_12.out) (Kd.R_typed (rP HO_11.out)) (by decide) hg)) (aI (aM (hb)) (aM (ho)))); clear HO_7 HO_12 HB HO_11; obtain ⟨HO_7, HO_12, HB, HO177⟩ := n_; (try clear ho hb hg hat)) | ((with_reducible refine gate_builtin (b := .append) (xs := #[.tmp 61, .tmp 64]) rfl ?_); at_builtin; refine Kd.R_append k65 (w0 := w) w.heap.size rfl (.tmp 61) (.tmp 64) 28 65 (.agg #[(.int .i64 0), (.string ⟨#[]⟩)]) 24 rfl Try.underlying28 info65 rfl (by decide) (by omega) u12 x12_2 (⟨t172, (⟨#[]⟩ : ByteArray)⟩ : S65) [.int .i64 t172, .string (⟨#[]⟩ : ByteArray)] (fun _ => True) (fun _ => False) rfl rfl ?aP (fun _ hk => hk.elim) ?aF ?aO ?aB ?aS ?aL ?_; (case aP => exact k65_mkM _ _ _ (⟨t172, (⟨#[]⟩ : ByteArray)⟩ : S65)); (case aB => exact bB); (case aF => exact (fun _ _ => trivial)); (case aO => exact (rP HO_12.out)); (case aS => exact (zB HB)); (case aL => have := LMc24.out; omega); intro v179 w26 ho hb hg hat; rw [← Ny178.out] at ho; have n_ := aI (aM (Kd.V_afterv (ok := (fun k_ => some k_ ≠ (v176 : Value).ownBlock)) (by (with_reducible repeat (first | apply Kd.V_alloc | apply Kd.V_drewN | apply Kd.V_drew)); exact Kd.V_mono HO_7.out (fun _ hk => ⟨hk.2, hk.1⟩)) hg hat)) (aI (aM (Kd.R_over' (rP HO177.out) (Kd.R_typed (rP HO_12.out)) (by decide) hg)) (aI (aM (hb)) (aM (ho)))); clear HO_7 HO177 HB HO_12; obtain ⟨HO_7, HO177, HB, HO180⟩ := n_; (try clear ho hb hg hat)))
           repeat (go_quiet (first | (go_at_call 113; (with_reducible refine (spec_GetNum.calls k2 _ _ y155 x9_2 t172 t173 true _ ?side1 ?side2 A21.out).mono ?_); (case side1 => repeat (first | exact (Kd.V_reads' HO_7.out).2.2 | (with_reducible refine Kd.C_alloc ?_ _) | (with_reducible refine Kd.C_drewN ?_ _) | (with_reducible refine Kd.C_drew ?_))); (case side2 => exact (Kd.V_reads' HO_7.out).2.1); rintro e w' ⟨rfl, ⟨nd, rfl⟩⟩; (try first | exact ⟨rfl, _, World.drewN_drewN _ _ _⟩ | exact ⟨rfl, _, Eq.trans (World.drewN_drewN _ _ _) (congrArg (World.drewN _) (Nat.add_assoc _ _ _))⟩)) | ((with_reducible refine gate_builtin (b := .append) (xs := #[.tmp 57, .tmp 59]) rfl ?_); at_builtin; refine Kd.R_append (Kd.int .i64) (w0 := w) w.heap.size rfl (.tmp 57) (.tmp 59) 95 3 (.int .i64 0) 8 rfl Try.underlying95 info3 rfl (by decide) (by omega) u11 x11_2 t172 [.int .i64 t172] (fun _ => True) (fun _ => False) rfl rfl ?aP (fun _ hk => hk.elim) ?aF ?aO ?aB ?aS ?aL ?_; (case aP => exact rfl); (case aB => exact bB); (case aF => exact (fun _ _ => trivial)); (case aO => exact (rP HO_11.out)); (case aS => exact (zB HB)); (case aL => have := LMc23.out; omega); intro v176 w25 ho hb hg hat; rw [← Ny175.out] at ho; have n_ := aI (aM (Kd.V_afterv (ok := (fun k_ => some k_ ≠ (u12 : Value).ownBlock)) (by (with_reducible repeat (first | apply Kd.V_alloc | apply Kd.V_drewN | apply Kd.V_drew)); exact Kd.V_mono HO_7.out (fun _ hk => ⟨hk.2, hk.1⟩)) hg hat)) (aI (aM (Kd.R_over' (rP HO_12.out) (Kd.R_typed (rP HO_11.out)) (by decide) hg)) (aI (aM (hb)) (aM (ho)))); clear HO_7 HO_12 HB HO_11; obtain ⟨HO_7, HO_12, HB, HO177⟩ := n_; (try clear ho hb hg hat)) | ((with_reducible refine gate_builtin (b := .append) (xs := #[.tmp 61, .tmp 64]) rfl ?_); at_builtin; refine Kd.R_append k65 (w0 := w) w.heap.size rfl (.tmp 61) (.tmp 64) 28 65 (.agg #[(.int .i64 0), (.string ⟨#[]⟩)]) 24 rfl Try.underlying28 info65 rfl (by decide) (by omega) u12 x12_2 (⟨t172, (⟨#[]⟩ : ByteArray)⟩ : S65) [.int .i64 t172, .string (⟨#[]⟩ : ByteArray)] (fun _ => True) (fun _ => False) rfl rfl ?aP (fun _ hk => hk.elim) ?aF ?aO ?aB ?aS ?aL ?_; (case aP => exact k65_mkM _ _ _ (⟨t172, (⟨#[]⟩ : ByteArray)⟩ : S65)); (case aB => exact bB); (case aF => exact (fun _ _ => trivial)); (case aO => exact (rP HO_12.out)); (case aS => exact (zB HB)); (case aL => have := LMc24.out; omega); intro v179 w26 ho hb hg hat; rw [← Ny178.out] at ho; have n_ := aI (aM (Kd.V_afterv (ok := (fun k_ => some k_ ≠ (v176 : Value).ownBlock)) (by (with_reducible repeat (first | apply Kd.V_alloc | apply Kd.V_drewN | apply Kd.V_drew)); exact Kd.V_mono HO_7.out (fun _ hk => ⟨hk.2, hk.1⟩)) hg hat)) (aI (aM (Kd.R_over' (rP HO177.out) (Kd.R_typed (rP HO_12.out)) (by decide) hg)) (aI (aM (hb)) (aM (ho)))); clear HO_7 HO177 HB HO_12; obtain ⟨HO_7, HO177, HB, HO180⟩ := n_; (try clear ho hb hg hat))); try go_wp2_with (first | (go_at_call 113; (with_reducible refine (spec_GetNum.calls k2 _ _ y155 x9_2 t172 t173 true _ ?side1 ?side2 A21.out).mono ?_); (case side1 => repeat (first | exact (Kd.V_reads' HO_7.out).2.2 | (with_reducible refine Kd.C_alloc ?_ _) | (with_reducible refine Kd.C_drewN ?_ _) | (with_reducible refine Kd.C_drew ?_))); (case side2 => exact (Kd.V_reads' HO_7.out).2.1); rintro e w' ⟨rfl, ⟨nd, rfl⟩⟩; (try first | exact ⟨rfl, _, World.drewN_drewN _ _ _⟩ | exact ⟨rfl, _, Eq.trans (World.drewN_drewN _ _ _) (congrArg (World.drewN _) (Nat.add_assoc _ _ _))⟩)) | ((with_reducible refine gate_builtin (b := .append) (xs := #[.tmp 57, .tmp 59]) rfl ?_); at_builtin; refine Kd.R_append (Kd.int .i64) (w0 := w) w.heap.size rfl (.tmp 57) (.tmp 59) 95 3 (.int .i64 0) 8 rfl Try.underlying95 info3 rfl (by decide) (by omega) u11 x11_2 t172 [.int .i64 t172] (fun _ => True) (fun _ => False) rfl rfl ?aP (fun _ hk => hk.elim) ?aF ?aO ?aB ?aS ?aL ?_; (case aP => exact rfl); (case aB => exact bB); (case aF => exact (fun _ _ => trivial)); (case aO => exact (rP HO_11.out)); (case aS => exact (zB HB)); (case aL => have := LMc23.out; omega); intro v176 w25 ho hb hg hat; rw [← Ny175.out] at ho; have n_ := aI (aM (Kd.V_afterv (ok := (fun k_ => some k_ ≠ (u12 : Value).ownBlock)) (by (with_reducible repeat (first | apply Kd.V_alloc | apply Kd.V_drewN | apply Kd.V_drew)); exact Kd.V_mono HO_7.out (fun _ hk => ⟨hk.2, hk.1⟩)) hg hat)) (aI (aM (Kd.R_over' (rP HO_12.out) (Kd.R_typed (rP HO_11.out)) (by decide) hg)) (aI (aM (hb)) (aM (ho)))); clear HO_7 HO_12 HB HO_11; obtain ⟨HO_7, HO_12, HB, HO177⟩ := n_; (try clear ho hb hg hat)) | ((with_reducible refine gate_builtin (b := .append) (xs := #[.tmp 61, .tmp 64]) rfl ?_); at_builtin; refine Kd.R_append k65 (w0 := w) w.heap.size rfl (.tmp 61) (.tmp 64) 28 65 (.agg #[(.int .i64 0), (.string ⟨#[]⟩)]) 24 rfl Try.underlying28 info65 rfl (by decide) (by omega) u12 x12_2 (⟨t172, (⟨#[]⟩ : ByteArray)⟩ : S65) [.int .i64 t172, .string (⟨#[]⟩ : ByteArray)] (fun _ => True) (fun _ => False) rfl rfl ?aP (fun _ hk => hk.elim) ?aF ?aO ?aB ?aS ?aL ?_; (case aP => exact k65_mkM _ _ _ (⟨t172, (⟨#[]⟩ : ByteArray)⟩ : S65)); (case aB => exact bB); (case aF => exact (fun _ _ => trivial)); (case aO => exact (rP HO_12.out)); (case aS => exact (zB HB)); (case aL => have := LMc24.out; omega); intro v179 w26 ho hb hg hat; rw [← Ny178.out] at ho; have n_ := aI (aM (Kd.V_afterv (ok := (fun k_ => some k_ ≠ (v176 : Value).ownBlock)) (by (with_reducible repeat (first | apply Kd.V_alloc | apply Kd.V_drewN | apply Kd.V_drew)); exact Kd.V_mono HO_7.out (fun _ hk => ⟨hk.2, hk.1⟩)) hg hat)) (aI (aM (Kd.R_over' (rP HO177.out) (Kd.R_typed (rP HO_12.out)) (by decide) hg)) (aI (aM (hb)) (aM (ho)))); clear HO_7 HO177 HB HO_12; obtain ⟨HO_7, HO177, HB, HO180⟩ := n_; (try clear ho hb hg hat))))
           go_roundg k2
           case measure => have := HJ4.out; have := HK2.out; omega
           case rel => exact ⟨(t173), (y175), (y178), (wrap64 (x13_2 + 1)), (by first | rfl | (simp; done) | (simp [*]; done) | (simp; exact (by intro l_; cases l_ <;> rfl : ∀ l_ : List UInt8, l_.isEmpty = !(l_ != [])) _)), (by first | rfl | (simp; done) | (simp [*]; done) | (simp; exact (by intro l_; cases l_ <;> rfl : ∀ l_ : List UInt8, l_.isEmpty = !(l_ != [])) _)), H', ⟨by have := HJ4.out; have := HK2.out; omega⟩, ⟨by (with_reducible repeat (first | apply Kd.V_alloc | apply Kd.V_drewN | apply Kd.V_drew)); exact HO_7.out⟩, ⟨rP HO177.out⟩, ⟨rP HO180.out⟩, ⟨bB⟩⟩
          ·rw [if_neg c24] at H
           exact absurd H (by simp)
         ·rw [if_neg c23] at H
          exact absurd H (by simp)
        ·replace c22 := Bool.eq_false_iff.mpr c22
         subst c22
         rw [if_neg (show ¬ (false = true) by decide)] at H
         obtain ⟨y181, hy181⟩ : ∃ y_ : List Int, y_ = (([] : List Int)) := ⟨_, rfl⟩
         replace H : (some (y181, 0, false)) = some (r1, r2, r3) := bQ hy181 H
         have Ny181 := aM hy181
         clear hy181
         simp only [Option.some.injEq, Prod.mk.injEq] at H
         obtain ⟨rfl, rfl, rfl⟩ := H
         go_wp2_with (first | (go_at_call 113; (with_reducible refine (spec_GetNum.calls k2 _ _ y155 x9_2 t172 t173 false _ ?side1 ?side2 A21.out).mono ?_); (case side1 => repeat (first | exact (Kd.V_reads' HO_7.out).2.2 | (with_reducible refine Kd.C_alloc ?_ _) | (with_reducible refine Kd.C_drewN ?_ _) | (with_reducible refine Kd.C_drew ?_))); (case side2 => exact (Kd.V_reads' HO_7.out).2.1); rintro e w' ⟨rfl, ⟨nd, rfl⟩⟩; (try first | exact ⟨rfl, _, World.drewN_drewN _ _ _⟩ | exact ⟨rfl, _, Eq.trans (World.drewN_drewN _ _ _) (congrArg (World.drewN _) (Nat.add_assoc _ _ _))⟩)) | ((with_reducible refine gate_dst (N := 56) rfl ?_); refine Kd.R_lit (Kd.int .i64) _ 3 ?hg (N := 56) ?hd (xs := ([] : List Int)) (inner := []) (ok := fun _ => True) (okp := fun _ => True) ?hr ?hp (fun _ hk => hk) trivial (Below.refl _ _) (Nat.le_refl _) (by simp) ?_; (case hd => rfl); (case hg => rfl); (case hr => first | (go_simp; done) | (go_simp; rfl)); (case hp => exact (Reps.none _ _)); intro v182 w27 ho28 hb hg_ hnew_; clear hg_ hnew_; (first | rw [← Ny181.out] at ho28 | (simp only [Int.reduceToNat] at ho28; rw [← Ny181.out] at ho28)); have n_ := aI (aM (Kd.V_elder' (by (with_reducible repeat (first | apply Kd.V_alloc | apply Kd.V_drewN | apply Kd.V_drew)); exact HO_7.out) (Kd.R_base ho28) hb)) (aI (eR HO_11 ho28 hb) (aI (rB HO_12 hb) (aI (aM (Kd.R_lower (Kd.R_new' ho28 (rL HO_11)) (zB HB))) (sB HB hb)))); clear HO_7 HO_11 HO_12 HB; obtain ⟨HO_7, HO_11, HO_12, HO183, HB⟩ := n_; (try clear hb ho28)))
         repeat (go_quiet (first | (go_at_call 113; (with_reducible refine (spec_GetNum.calls k2 _ _ y155 x9_2 t172 t173 false _ ?side1 ?side2 A21.out).mono ?_); (case side1 => repeat (first | exact (Kd.V_reads' HO_7.out).2.2 | (with_reducible refine Kd.C_alloc ?_ _) | (with_reducible refine Kd.C_drewN ?_ _) | (with_reducible refine Kd.C_drew ?_))); (case side2 => exact (Kd.V_reads' HO_7.out).2.1); rintro e w' ⟨rfl, ⟨nd, rfl⟩⟩; (try first | exact ⟨rfl, _, World.drewN_drewN _ _ _⟩ | exact ⟨rfl, _, Eq.trans (World.drewN_drewN _ _ _) (congrArg (World.drewN _) (Nat.add_assoc _ _ _))⟩)) | ((with_reducible refine gate_dst (N := 56) rfl ?_); refine Kd.R_lit (Kd.int .i64) _ 3 ?hg (N := 56) ?hd (xs := ([] : List Int)) (inner := []) (ok := fun _ => True) (okp := fun _ => True) ?hr ?hp (fun _ hk => hk) trivial (Below.refl _ _) (Nat.le_refl _) (by simp) ?_; (case hd => rfl); (case hg => rfl); (case hr => first | (go_simp; done) | (go_simp; rfl)); (case hp => exact (Reps.none _ _)); intro v182 w27 ho28 hb hg_ hnew_; clear hg_ hnew_; (first | rw [← Ny181.out] at ho28 | (simp only [Int.reduceToNat] at ho28; rw [← Ny181.out] at ho28)); have n_ := aI (aM (Kd.V_elder' (by (with_reducible repeat (first | apply Kd.V_alloc | apply Kd.V_drewN | apply Kd.V_drew)); exact HO_7.out) (Kd.R_base ho28) hb)) (aI (eR HO_11 ho28 hb) (aI (rB HO_12 hb) (aI (aM (Kd.R_lower (Kd.R_new' ho28 (rL HO_11)) (zB HB))) (sB HB hb)))); clear HO_7 HO_11 HO_12 HB; obtain ⟨HO_7, HO_11, HO_12, HO183, HB⟩ := n_; (try clear hb ho28))); try go_wp2_with (first | (go_at_call 113; (with_reducible refine (spec_GetNum.calls k2 _ _ y155 x9_2 t172 t173 false _ ?side1 ?side2 A21.out).mono ?_); (case side1 => repeat (first | exact (Kd.V_reads' HO_7.out).2.2 | (with_reducible refine Kd.C_alloc ?_ _) | (with_reducible refine Kd.C_drewN ?_ _) | (with_reducible refine Kd.C_drew ?_))); (case side2 => exact (Kd.V_reads' HO_7.out).2.1); rintro e w' ⟨rfl, ⟨nd, rfl⟩⟩; (try first | exact ⟨rfl, _, World.drewN_drewN _ _ _⟩ | exact ⟨rfl, _, Eq.trans (World.drewN_drewN _ _ _) (congrArg (World.drewN _) (Nat.add_assoc _ _ _))⟩)) | ((with_reducible refine gate_dst (N := 56) rfl ?_); refine Kd.R_lit (Kd.int .i64) _ 3 ?hg (N := 56) ?hd (xs := ([] : List Int)) (inner := []) (ok := fun _ => True) (okp := fun _ => True) ?hr ?hp (fun _ hk => hk) trivial (Below.refl _ _) (Nat.le_refl _) (by simp) ?_; (case hd => rfl); (case hg => rfl); (case hr => first | (go_simp; done) | (go_simp; rfl)); (case hp => exact (Reps.none _ _)); intro v182 w27 ho28 hb hg_ hnew_; clear hg_ hnew_; (first | rw [← Ny181.out] at ho28 | (simp only [Int.reduceToNat] at ho28; rw [← Ny181.out] at ho28)); have n_ := aI (aM (Kd.V_elder' (by (with_reducible repeat (first | apply Kd.V_alloc | apply Kd.V_drewN | apply Kd.V_drew)); exact HO_7.out) (Kd.R_base ho28) hb)) (aI (eR HO_11 ho28 hb) (aI (rB HO_12 hb) (aI (aM (Kd.R_lower (Kd.R_new' ho28 (rL HO_11)) (zB HB))) (sB HB hb)))); clear HO_7 HO_11 HO_12 HB; obtain ⟨HO_7, HO_11, HO_12, HO183, HB⟩ := n_; (try clear hb ho28))))
         go_ret3
         exact ⟨_, eW, by (with_reducible repeat (first | apply Kd.R_alloc | apply Kd.R_drewN | apply Kd.R_drew)); exact Kd.R_mono HO183.out (fun _ hk => trivial), bB⟩
       ·rw [if_neg c20] at H
        have c20b0 : decide (x13_2 < t158) = false := decide_eq_false c20
        clear c20
        by_cases c29 : (y155.length : Int) = (wrap64 (x9_2 + 4))
        ·rw [if_pos c29] at H
         have c29b0 : ((y155.length : Int) == (wrap64 (x9_2 + 4))) = true := beq_iff_eq.mpr c29
         have c29b1 : ((y155.length : Int) != (wrap64 (x9_2 + 4))) = false := bne_eq_false_iff_eq.mpr c29
         clear c29
         replace H := Option.bind_eq_some_iff.mp H
         obtain ⟨t184, A300, H⟩ := H
         try dsimp only at H
         have A30 := aM A300
         clear A300
         by_cases c31 : t184 = true
         ·subst c31
          rw [if_pos rfl] at H
          by_cases c32 : 0 ≤ x9_2
          ·rw [if_pos c32] at H
           have c32b0 : decide (0 ≤ x9_2) = true := decide_eq_true c32
           clear c32
           by_cases c33 : x9_2 < (y155.length : Int)
           ·rw [if_pos c33] at H
            have c33b0 : decide (x9_2 < (y155.length : Int)) = true := decide_eq_true c33
            clear c33
            obtain ⟨ji34, hji34⟩ : ∃ j_ : Int, (wrap64 (x9_2 + 1)) = j_ := ⟨_, rfl⟩
            replace H : (if 0 ≤ (ji34) then (if (ji34) < (y155.length : Int) then (if 0 ≤ (wrap64 (x9_2 + 2)) then (if (wrap64 (x9_2 + 2)) < (y155.length : Int) then (if 0 ≤ (wrap64 (x9_2 + 3)) then (if (wrap64 (x9_2 + 3)) < (y155.length : Int) then (some (x11_2, wrap64 ((wrap64 ((wrap64 ((wrap64 ((wrap64 ((wrap64 ((wrap64 (rd y155 x9_2)) * 256)) + (wrap64 (rd y155 (ji34))))) * 256)) + (wrap64 (rd y155 (wrap64 (x9_2 + 2)))))) * 256)) + (wrap64 (rd y155 (wrap64 (x9_2 + 3))))), true)) else (none)) else (none)) else (none)) else (none)) else (none)) else (none)) = some (r1, r2, r3) := by first | (rw [hji34] at H; exact H) | (simp only [hji34] at H ⊢; exact H)
            (try rw [hji34] at A30)
            have hji34w : (IntKind.i64.wrap (x9_2 + 1)) = ji34 := (i64_w _).trans hji34
            by_cases c35 : 0 ≤ (ji34)
            ·rw [if_pos c35] at H
             have c35b0 : decide (0 ≤ (ji34)) = true := decide_eq_true c35
             clear c35
             by_cases c36 : (ji34) < (y155.length : Int)
             ·rw [if_pos c36] at H
              have c36b0 : decide ((ji34) < (y155.length : Int)) = true := decide_eq_true c36
              clear c36
              obtain ⟨ji37, hji37⟩ : ∃ j_ : Int, (wrap64 (x9_2 + 2)) = j_ := ⟨_, rfl⟩
              replace H : (if 0 ≤ (ji37) then (if (ji37) < (y155.length : Int) then (if 0 ≤ (wrap64 (x9_2 + 3)) then (if (wrap64 (x9_2 + 3)) < (y155.length : Int) then (some (x11_2, wrap64 ((wrap64 ((wrap64 ((wrap64 ((wrap64 ((wrap64 ((wrap64 (rd y155 x9_2)) * 256)) + (wrap64 (rd y155 (ji34))))) * 256)) + (wrap64 (rd y155 (ji37))))) * 256)) + (wrap64 (rd y155 (wrap64 (x9_2 + 3))))), true)) else (none)) else (none)) else (none)) else (none)) = some (r1, r2, r3) := by first | (rw [hji37] at H; exact H) | (simp only [hji37] at H ⊢; exact H)
              (try rw [hji37] at A30)
              have hji37w : (IntKind.i64.wrap (x9_2 + 2)) = ji37 := (i64_w _).trans hji37
              by_cases c38 : 0 ≤ (ji37)
              ·rw [if_pos c38] at H
               have c38b0 : decide (0 ≤ (ji37)) = true := decide_eq_true c38
               clear c38
               by_cases c39 : (ji37) < (y155.length : Int)
               ·rw [if_pos c39] at H
                have c39b0 : decide ((ji37) < (y155.length : Int)) = true := decide_eq_true c39
                clear c39
                obtain ⟨ji40, hji40⟩ : ∃ j_ : Int, (wrap64 (x9_2 + 3)) = j_ := ⟨_, rfl⟩
                replace H : (if 0 ≤ (ji40) then (if (ji40) < (y155.length : Int) then (some (x11_2, wrap64 ((wrap64 ((wrap64 ((wrap64 ((wrap64 ((wrap64 ((wrap64 (rd y155 x9_2)) * 256)) + (wrap64 (rd y155 (ji34))))) * 256)) + (wrap64 (rd y155 (ji37))))) * 256)) + (wrap64 (rd y155 (ji40)))), true)) else (none)) else (none)) = some (r1, r2, r3) := by first | (rw [hji40] at H; exact H) | (simp only [hji40] at H ⊢; exact H)
                (try rw [hji40] at A30)
                have hji40w : (IntKind.i64.wrap (x9_2 + 3)) = ji40 := (i64_w _).trans hji40
                by_cases c41 : 0 ≤ (ji40)
                ·rw [if_pos c41] at H
                 have c41b0 : decide (0 ≤ (ji40)) = true := decide_eq_true c41
                 clear c41
                 by_cases c42 : (ji40) < (y155.length : Int)
                 ·rw [if_pos c42] at H
                  have c42b0 : decide ((ji40) < (y155.length : Int)) = true := decide_eq_true c42
                  clear c42
                  simp only [Option.some.injEq, Prod.mk.injEq] at H
                  obtain ⟨rfl, rfl, rfl⟩ := H
                  obtain ⟨Ao43, co43, eo43⟩ := Kd.R_slice HO_12.out
                  subst eo43
                  go_wp2_with (first | (go_at_call 102; (with_reducible refine (spec_TxOk.calls k2 a1 _ _ x12_2 true _ ?side1 ?side2 A30.out).mono ?_); (case side1 => exact cR HO_12); (case side2 => exact (Kd.R_reads' HO_12.out).2.1); rintro e w' ⟨rfl, ⟨nd, rfl⟩⟩; (try first | exact ⟨rfl, _, World.drewN_drewN _ _ _⟩ | exact ⟨rfl, _, Eq.trans (World.drewN_drewN _ _ _) (congrArg (World.drewN _) (Nat.add_assoc _ _ _))⟩); have p185 : 0 ≤ (x9_2 : Int) := dT; have q185 : x9_2 < (y155.length : Int) := dT; obtain ⟨ad185, e185, hx185_0⟩ := Kd.at_int (Kd.V_reads' HO_7.out).2.2 x9_2 p185 q185; cases e185; replace p185 := eq_true p185; replace q185 := eq_true q185; have p186 : 0 ≤ ((ji34) : Int) := dT; have q186 : (ji34) < (y155.length : Int) := dT; obtain ⟨ad186, e186, hx186_0⟩ := Kd.at_int (Kd.V_reads' HO_7.out).2.2 (ji34) p186 q186; obtain rfl : ad185 = ad186 := (by injection e186); replace p186 := eq_true p186; replace q186 := eq_true q186; have p187 : 0 ≤ ((ji37) : Int) := dT; have q187 : (ji37) < (y155.length : Int) := dT; obtain ⟨ad187, e187, hx187_0⟩ := Kd.at_int (Kd.V_reads' HO_7.out).2.2 (ji37) p187 q187; obtain rfl : ad185 = ad187 := (by injection e187); replace p187 := eq_true p187; replace q187 := eq_true q187; have p188 : 0 ≤ ((ji40) : Int) := dT; have q188 : (ji40) < (y155.length : Int) := dT; obtain ⟨ad188, e188, hx188_0⟩ := Kd.at_int (Kd.V_reads' HO_7.out).2.2 (ji40) p188 q188; obtain rfl : ad185 = ad188 := (by injection e188); replace p188 := eq_true p188; replace q188 := eq_true q188))
                  repeat (go_quiet (first | (go_at_call 102; (with_reducible refine (spec_TxOk.calls k2 a1 _ _ x12_2 true _ ?side1 ?side2 A30.out).mono ?_); (case side1 => exact cR HO_12); (case side2 => exact (Kd.R_reads' HO_12.out).2.1); rintro e w' ⟨rfl, ⟨nd, rfl⟩⟩; (try first | exact ⟨rfl, _, World.drewN_drewN _ _ _⟩ | exact ⟨rfl, _, Eq.trans (World.drewN_drewN _ _ _) (congrArg (World.drewN _) (Nat.add_assoc _ _ _))⟩); have p185 : 0 ≤ (x9_2 : Int) := dT; have q185 : x9_2 < (y155.length : Int) := dT; obtain ⟨ad185, e185, hx185_0⟩ := Kd.at_int (Kd.V_reads' HO_7.out).2.2 x9_2 p185 q185; cases e185; replace p185 := eq_true p185; replace q185 := eq_true q185; have p186 : 0 ≤ ((ji34) : Int) := dT; have q186 : (ji34) < (y155.length : Int) := dT; obtain ⟨ad186, e186, hx186_0⟩ := Kd.at_int (Kd.V_reads' HO_7.out).2.2 (ji34) p186 q186; obtain rfl : ad185 = ad186 := (by injection e186); replace p186 := eq_true p186; replace q186 := eq_true q186; have p187 : 0 ≤ ((ji37) : Int) := dT; have q187 : (ji37) < (y155.length : Int) := dT; obtain ⟨ad187, e187, hx187_0⟩ := Kd.at_int (Kd.V_reads' HO_7.out).2.2 (ji37) p187 q187; obtain rfl : ad185 = ad187 := (by injection e187); replace p187 := eq_true p187; replace q187 := eq_true q187; have p188 : 0 ≤ ((ji40) : Int) := dT; have q188 : (ji40) < (y155.length : Int) := dT; obtain ⟨ad188, e188, hx188_0⟩ := Kd.at_int (Kd.V_reads' HO_7.out).2.2 (ji40) p188 q188; obtain rfl : ad185 = ad188 := (by injection e188); replace p188 := eq_true p188; replace q188 := eq_true q188)); try go_wp2_with (first | (go_at_call 102; (with_reducible refine (spec_TxOk.calls k2 a1 _ _ x12_2 true _ ?side1 ?side2 A30.out).mono ?_); (case side1 => exact cR HO_12); (case side2 => exact (Kd.R_reads' HO_12.out).2.1); rintro e w' ⟨rfl, ⟨nd, rfl⟩⟩; (try first | exact ⟨rfl, _, World.drewN_drewN _ _ _⟩ | exact ⟨rfl, _, Eq.trans (World.drewN_drewN _ _ _) (congrArg (World.drewN _) (Nat.add_assoc _ _ _))⟩); have p185 : 0 ≤ (x9_2 : Int) := dT; have q185 : x9_2 < (y155.length : Int) := dT; obtain ⟨ad185, e185, hx185_0⟩ := Kd.at_int (Kd.V_reads' HO_7.out).2.2 x9_2 p185 q185; cases e185; replace p185 := eq_true p185; replace q185 := eq_true q185; have p186 : 0 ≤ ((ji34) : Int) := dT; have q186 : (ji34) < (y155.length : Int) := dT; obtain ⟨ad186, e186, hx186_0⟩ := Kd.at_int (Kd.V_reads' HO_7.out).2.2 (ji34) p186 q186; obtain rfl : ad185 = ad186 := (by injection e186); replace p186 := eq_true p186; replace q186 := eq_true q186; have p187 : 0 ≤ ((ji37) : Int) := dT; have q187 : (ji37) < (y155.length : Int) := dT; obtain ⟨ad187, e187, hx187_0⟩ := Kd.at_int (Kd.V_reads' HO_7.out).2.2 (ji37) p187 q187; obtain rfl : ad185 = ad187 := (by injection e187); replace p187 := eq_true p187; replace q187 := eq_true q187; have p188 : 0 ≤ ((ji40) : Int) := dT; have q188 : (ji40) < (y155.length : Int) := dT; obtain ⟨ad188, e188, hx188_0⟩ := Kd.at_int (Kd.V_reads' HO_7.out).2.2 (ji40) p188 q188; obtain rfl : ad185 = ad188 := (by injection e188); replace p188 := eq_true p188; replace q188 := eq_true q188)))
                  go_ret3
                  exact ⟨_, by first | rfl | (simp [errW_none, errW_some] <;> rfl) | (simp only [← hji34, ← hji37, ← hji40]; first | rfl | (simp [errW_none, errW_some] <;> rfl)) | (simp [*, errW_none, errW_some] <;> rfl), by (with_reducible repeat (first | apply Kd.R_alloc | apply Kd.R_drewN | apply Kd.R_drew)); exact HO_11.out, bB⟩
                 ·rw [if_neg c42] at H
                  exact absurd H (by simp)
                ·rw [if_neg c41] at H
                 exact absurd H (by simp)
               ·rw [if_neg c39] at H
                exact absurd H (by simp)
              ·rw [if_neg c38] at H
               exact absurd H (by simp)
             ·rw [if_neg c36] at H
              exact absurd H (by simp)
            ·rw [if_neg c35] at H
             exact absurd H (by simp)
           ·rw [if_neg c33] at H
            exact absurd H (by simp)
          ·rw [if_neg c32] at H
           exact absurd H (by simp)
         ·replace c31 := Bool.eq_false_iff.mpr c31
          subst c31
          rw [if_neg (show ¬ (false = true) by decide)] at H
          obtain ⟨y189, hy189⟩ : ∃ y_ : List Int, y_ = (([] : List Int)) := ⟨_, rfl⟩
          replace H : (some (y189, 0, false)) = some (r1, r2, r3) := bQ hy189 H
          have Ny189 := aM hy189
          clear hy189
          simp only [Option.some.injEq, Prod.mk.injEq] at H
          obtain ⟨rfl, rfl, rfl⟩ := H
          obtain ⟨Ao44, co44, eo44⟩ := Kd.R_slice HO_12.out
          subst eo44
          go_wp2_with (first | (go_at_call 102; (with_reducible refine (spec_TxOk.calls k2 a1 _ _ x12_2 false _ ?side1 ?side2 A30.out).mono ?_); (case side1 => exact cR HO_12); (case side2 => exact (Kd.R_reads' HO_12.out).2.1); rintro e w' ⟨rfl, ⟨nd, rfl⟩⟩; (try first | exact ⟨rfl, _, World.drewN_drewN _ _ _⟩ | exact ⟨rfl, _, Eq.trans (World.drewN_drewN _ _ _) (congrArg (World.drewN _) (Nat.add_assoc _ _ _))⟩)) | ((with_reducible refine gate_dst (N := 78) rfl ?_); refine Kd.R_lit (Kd.int .i64) _ 3 ?hg (N := 78) ?hd (xs := ([] : List Int)) (inner := []) (ok := fun _ => True) (okp := fun _ => True) ?hr ?hp (fun _ hk => hk) trivial (Below.refl _ _) (Nat.le_refl _) (by simp) ?_; (case hd => rfl); (case hg => rfl); (case hr => first | (go_simp; done) | (go_simp; rfl)); (case hp => exact (Reps.none _ _)); intro v190 w45 ho46 hb hg_ hnew_; clear hg_ hnew_; (first | rw [← Ny189.out] at ho46 | (simp only [Int.reduceToNat] at ho46; rw [← Ny189.out] at ho46)); have n_ := aI (aM (Kd.V_elder' (by (with_reducible repeat (first | apply Kd.V_alloc | apply Kd.V_drewN | apply Kd.V_drew)); exact HO_7.out) (Kd.R_base ho46) hb)) (aI (eR HO_11 ho46 hb) (aI (rB HO_12 hb) (aI (aM (Kd.R_lower (Kd.R_new' ho46 (rL HO_11)) (zB HB))) (sB HB hb)))); clear HO_7 HO_11 HO_12 HB; obtain ⟨HO_7, HO_11, HO_12, HO191, HB⟩ := n_; (try clear hb ho46)))
          repeat (go_quiet (first | (go_at_call 102; (with_reducible refine (spec_TxOk.calls k2 a1 _ _ x12_2 false _ ?side1 ?side2 A30.out).mono ?_); (case side1 => exact cR HO_12); (case side2 => exact (Kd.R_reads' HO_12.out).2.1); rintro e w' ⟨rfl, ⟨nd, rfl⟩⟩; (try first | exact ⟨rfl, _, World.drewN_drewN _ _ _⟩ | exact ⟨rfl, _, Eq.trans (World.drewN_drewN _ _ _) (congrArg (World.drewN _) (Nat.add_assoc _ _ _))⟩)) | ((with_reducible refine gate_dst (N := 78) rfl ?_); refine Kd.R_lit (Kd.int .i64) _ 3 ?hg (N := 78) ?hd (xs := ([] : List Int)) (inner := []) (ok := fun _ => True) (okp := fun _ => True) ?hr ?hp (fun _ hk => hk) trivial (Below.refl _ _) (Nat.le_refl _) (by simp) ?_; (case hd => rfl); (case hg => rfl); (case hr => first | (go_simp; done) | (go_simp; rfl)); (case hp => exact (Reps.none _ _)); intro v190 w45 ho46 hb hg_ hnew_; clear hg_ hnew_; (first | rw [← Ny189.out] at ho46 | (simp only [Int.reduceToNat] at ho46; rw [← Ny189.out] at ho46)); have n_ := aI (aM (Kd.V_elder' (by (with_reducible repeat (first | apply Kd.V_alloc | apply Kd.V_drewN | apply Kd.V_drew)); exact HO_7.out) (Kd.R_base ho46) hb)) (aI (eR HO_11 ho46 hb) (aI (rB HO_12 hb) (aI (aM (Kd.R_lower (Kd.R_new' ho46 (rL HO_11)) (zB HB))) (sB HB hb)))); clear HO_7 HO_11 HO_12 HB; obtain ⟨HO_7, HO_11, HO_12, HO191, HB⟩ := n_; (try clear hb ho46))); try go_wp2_with (first | (go_at_call 102; (with_reducible refine (spec_TxOk.calls k2 a1 _ _ x12_2 false _ ?side1 ?side2 A30.out).mono ?_); (case side1 => exact cR HO_12); (case side2 => exact (Kd.R_reads' HO_12.out).2.1); rintro e w' ⟨rfl, ⟨nd, rfl⟩⟩; (try first | exact ⟨rfl, _, World.drewN_drewN _ _ _⟩ | exact ⟨rfl, _, Eq.trans (World.drewN_drewN _ _ _) (congrArg (World.drewN _) (Nat.add_assoc _ _ _))⟩)) | ((with_reducible refine gate_dst (N := 78) rfl ?_); refine Kd.R_lit (Kd.int .i64) _ 3 ?hg (N := 78) ?hd (xs := ([] : List Int)) (inner := []) (ok := fun _ => True) (okp := fun _ => True) ?hr ?hp (fun _ hk => hk) trivial (Below.refl _ _) (Nat.le_refl _) (by simp) ?_; (case hd => rfl); (case hg => rfl); (case hr => first | (go_simp; done) | (go_simp; rfl)); (case hp => exact (Reps.none _ _)); intro v190 w45 ho46 hb hg_ hnew_; clear hg_ hnew_; (first | rw [← Ny189.out] at ho46 | (simp only [Int.reduceToNat] at ho46; rw [← Ny189.out] at ho46)); have n_ := aI (aM (Kd.V_elder' (by (with_reducible repeat (first | apply Kd.V_alloc | apply Kd.V_drewN | apply Kd.V_drew)); exact HO_7.out) (Kd.R_base ho46) hb)) (aI (eR HO_11 ho46 hb) (aI (rB HO_12 hb) (aI (aM (Kd.R_lower (Kd.R_new' ho46 (rL HO_11)) (zB HB))) (sB HB hb)))); clear HO_7 HO_11 HO_12 HB; obtain ⟨HO_7, HO_11, HO_12, HO191, HB⟩ := n_; (try clear hb ho46))))
          go_ret3
          exact ⟨_, eW, by (with_reducible repeat (first | apply Kd.R_alloc | apply Kd.R_drewN | apply Kd.R_drew)); exact Kd.R_mono HO191.out (fun _ hk => trivial), bB⟩
        ·rw [if_neg c29] at H
         have c29b0 : ((y155.length : Int) == (wrap64 (x9_2 + 4))) = false := beq_eq_false_iff_ne.mpr c29
         have c29b1 : ((y155.length : Int) != (wrap64 (x9_2 + 4))) = true := bne_iff_ne.mpr c29
         obtain ⟨y192, hy192⟩ : ∃ y_ : List Int, y_ = (([] : List Int)) := ⟨_, rfl⟩
         replace H : (some (y192, 0, false)) = some (r1, r2, r3) := bQ hy192 H
         have Ny192 := aM hy192
         clear hy192
         simp only [Option.some.injEq, Prod.mk.injEq] at H
         obtain ⟨rfl, rfl, rfl⟩ := H
         go_wp2_with (first | ((with_reducible refine gate_dst (N := 78) rfl ?_); refine Kd.R_lit (Kd.int .i64) _ 3 ?hg (N := 78) ?hd (xs := ([] : List Int)) (inner := []) (ok := fun _ => True) (okp := fun _ => True) ?hr ?hp (fun _ hk => hk) trivial (Below.refl _ _) (Nat.le_refl _) (by simp) ?_; (case hd => rfl); (case hg => rfl); (case hr => first | (go_simp; done) | (go_simp; rfl)); (case hp => exact (Reps.none _ _)); intro v193 w47 ho48 hb hg_ hnew_; clear hg_ hnew_; (first | rw [← Ny192.out] at ho48 | (simp only [Int.reduceToNat] at ho48; rw [← Ny192.out] at ho48)); have n_ := aI (aM (Kd.V_elder' (by (with_reducible repeat (first | apply Kd.V_alloc | apply Kd.V_drewN | apply Kd.V_drew)); exact HO_7.out) (Kd.R_base ho48) hb)) (aI (eR HO_11 ho48 hb) (aI (rB HO_12 hb) (aI (aM (Kd.R_lower (Kd.R_new' ho48 (rL HO_11)) (zB HB))) (sB HB hb)))); clear HO_7 HO_11 HO_12 HB; obtain ⟨HO_7, HO_11, HO_12, HO194, HB⟩ := n_; (try clear hb ho48)))
         repeat (go_quiet (first | ((with_reducible refine gate_dst (N := 78) rfl ?_); refine Kd.R_lit (Kd.int .i64) _ 3 ?hg (N := 78) ?hd (xs := ([] : List Int)) (inner := []) (ok := fun _ => True) (okp := fun _ => True) ?hr ?hp (fun _ hk => hk) trivial (Below.refl _ _) (Nat.le_refl _) (by simp) ?_; (case hd => rfl); (case hg => rfl); (case hr => first | (go_simp; done) | (go_simp; rfl)); (case hp => exact (Reps.none _ _)); intro v193 w47 ho48 hb hg_ hnew_; clear hg_ hnew_; (first | rw [← Ny192.out] at ho48 | (simp only [Int.reduceToNat] at ho48; rw [← Ny192.out] at ho48)); have n_ := aI (aM (Kd.V_elder' (by (with_reducible repeat (first | apply Kd.V_alloc | apply Kd.V_drewN | apply Kd.V_drew)); exact HO_7.out) (Kd.R_base ho48) hb)) (aI (eR HO_11 ho48 hb) (aI (rB HO_12 hb) (aI (aM (Kd.R_lower (Kd.R_new' ho48 (rL HO_11)) (zB HB))) (sB HB hb)))); clear HO_7 HO_11 HO_12 HB; obtain ⟨HO_7, HO_11, HO_12, HO194, HB⟩ := n_; (try clear hb ho48))); try go_wp2_with (first | ((with_reducible refine gate_dst (N := 78) rfl ?_); refine Kd.R_lit (Kd.int .i64) _ 3 ?hg (N := 78) ?hd (xs := ([] : List Int)) (inner := []) (ok := fun _ => True) (okp := fun _ => True) ?hr ?hp (fun _ hk => hk) trivial (Below.refl _ _) (Nat.le_refl _) (by simp) ?_; (case hd => rfl); (case hg => rfl); (case hr => first | (go_simp; done) | (go_simp; rfl)); (case hp => exact (Reps.none _ _)); intro v193 w47 ho48 hb hg_ hnew_; clear hg_ hnew_; (first | rw [← Ny192.out] at ho48 | (simp only [Int.reduceToNat] at ho48; rw [← Ny192.out] at ho48)); have n_ := aI (aM (Kd.V_elder' (by (with_reducible repeat (first | apply Kd.V_alloc | apply Kd.V_drewN | apply Kd.V_drew)); exact HO_7.out) (Kd.R_base ho48) hb)) (aI (eR HO_11 ho48 hb) (aI (rB HO_12 hb) (aI (aM (Kd.R_lower (Kd.R_new' ho48 (rL HO_11)) (zB HB))) (sB HB hb)))); clear HO_7 HO_11 HO_12 HB; obtain ⟨HO_7, HO_11, HO_12, HO194, HB⟩ := n_; (try clear hb ho48))))
         go_ret3
         exact ⟨_, eW, by (with_reducible repeat (first | apply Kd.R_alloc | apply Kd.R_drewN | apply Kd.R_drew)); exact Kd.R_mono HO194.out (fun _ hk => trivial), bB⟩
 rw [if_neg c3] at H
 exact absurd H (by simp)

/-! ### spec_PutNum: function 129 -/
def spec_PutNum.l0 : Nat → Int → List Int → Option (List Int)
 | 0, _, _ => none
 | k + 1, x0, x3 => if x0 > 127 then (if x3.length < 140737488355328 then (spec_PutNum.l0 k (wrap64 (Int.tdiv x0 128)) (x3 ++ [(wrap64 ((Int.tmod x0 128) + 128)) % 256])) else (none)) else (if x3.length < 140737488355328 then (some (x3 ++ [(x0) % 256])) else (none))
def spec_PutNum.f (k : Nat) (a0 : Int) : Option (List Int) := (some (([] : List Int) : List Int)).bind fun y195 => ((spec_l1In.f a0 0 2147483647).bind fun t198 => (if t198 = true then (spec_PutNum.l0 k a0 y195) else (some y195)))
theorem spec_PutNum.mono_l : ∀ k, (∀ y0 y1, LeO (spec_PutNum.l0 k y0 y1) (spec_PutNum.l0 (k + 1) y0 y1))
 | 0 => fun _ _ r h => by simp [spec_PutNum.l0] at h
 | k + 1 => by
  have ih0 := spec_PutNum.mono_l k
  ·intro y0 y1
   unfold spec_PutNum.l0
   exact mM
theorem spec_PutNum.mono : ∀ a0 k, LeO (spec_PutNum.f k a0) (spec_PutNum.f (k + 1) a0) := by
 intro a0 k
 have ih0 := spec_PutNum.mono_l k
 unfold spec_PutNum.f
 exact mM
set_option maxHeartbeats 8000000 in
set_option maxRecDepth 100000 in
theorem spec_PutNum.calls (k : Nat) (a0 : Int) (r : List Int) (w : World) (h : spec_PutNum.f k a0 = some r) :
  Calls Try.prog 129 #[.int .i64 a0] w fun e w' => ∃ v0_ : Value, e = .returned (v0_) ∧ Kd.R (Kd.int .u8) 5 w' w.heap.size (fun _ => True) v0_ r ∧ Below w.heap.size w w' := by
 have HB := aM (Below.refl w.heap.size w)
 unfold spec_PutNum.f at h
 have H := h
 clear h
 obtain ⟨y195, hy195⟩ : ∃ y_ : List Int, y_ = (([] : List Int)) := ⟨_, rfl⟩
 replace H : ((spec_l1In.f a0 0 2147483647).bind fun t198 => (if t198 = true then (spec_PutNum.l0 k a0 y195) else (some y195))) = some r := bQ hy195 H
 have Ny195 := aM hy195
 clear hy195
 replace H := Option.bind_eq_some_iff.mp H
 obtain ⟨t198, A20, H⟩ := H
 try dsimp only at H
 have A2 := aM A20
 clear A20
 by_cases c3 : t198 = true
 ·subst c3
  rw [if_pos rfl] at H
  have H' := aM H
  clear H
  go_enter Try.func129, Try.ntmps129
  go_wp2_with (first | ((with_reducible refine gate_dst (N := 4) rfl ?_); refine Kd.R_lit (Kd.int .u8) _ 5 ?hg (N := 4) ?hd (xs := ([] : List Int)) (inner := []) (ok := fun _ => True) (okp := fun _ => True) ?hr ?hp (fun _ hk => hk) trivial (Below.refl _ _) (Nat.le_refl _) (by simp) ?_; (case hd => rfl); (case hg => rfl); (case hr => first | (go_simp; done) | (go_simp; rfl)); (case hp => exact (Reps.none _ _)); intro v196 w4 ho5 hb hg_ hnew_; clear hg_ hnew_; (first | rw [← Ny195.out] at ho5 | (simp only [Int.reduceToNat] at ho5; rw [← Ny195.out] at ho5)); have n_ := aI (lR HB ho5) (sB HB hb); clear HB; obtain ⟨HO197, HB⟩ := n_; (try clear hb ho5)) | ((with_reducible refine gate_callee (f := 69) rfl ?_); refine gL (some 6) Try.func69 #[.int .i64 a0, .int .i64 0, .int .i64 2147483647] ?_; (with_reducible refine (spec_l1In.calls a0 0 2147483647 true _ A2.out).mono ?_); rintro e w' ⟨rfl, ⟨nd, rfl⟩⟩; refine ⟨_, rfl, ?_⟩))
  go_loopg [0, 3] k (fun kq v0 v3 w' => ∃ (x0_1 : Int) (x3_1 : List Int), v0 = .int .i64 x0_1 ∧ Aside0 (spec_PutNum.l0 kq x0_1 x3_1 = some r) ∧ Aside0 (kq ≤ k) ∧ Aside0 (Kd.R (Kd.int .u8) 5 w' w.heap.size (fun _ => True) v3 x3_1) ∧ Aside0 (Below w.heap.size w w'))
  case atStart => exact ⟨(a0), (y195), (by first | rfl | (simp; done) | (simp [*]; done) | (simp; exact (by intro l_; cases l_ <;> rfl : ∀ l_ : List UInt8, l_.isEmpty = !(l_ != [])) _)), H', ⟨Nat.le_refl _⟩, ⟨rP HO197.out⟩, ⟨bB⟩⟩
  case round =>
   clear H'
   try clear c1
   try clear p2
   try clear c3
   obtain ⟨x0_1, x3_1, rfl, HA, HK1, HO_3, HB⟩ := hrel
   cases gk with
   | zero => exact absurd HA.out (by simp [spec_PutNum.l0])
   | succ k1 =>
    have H := HA.out
    clear HA
    simp only [spec_PutNum.l0] at H
    by_cases c6 : x0_1 > 127
    ·rw [if_pos c6] at H
     have c6b0 : decide (127 < x0_1) = true := decide_eq_true c6
     clear c6
     by_cases c7 : x3_1.length < 140737488355328
     ·rw [if_pos c7] at H
      have LMc7 := aM c7
      clear c7
      obtain ⟨y199, hy199⟩ : ∃ y_ : List Int, y_ = (x3_1 ++ [(wrap64 ((Int.tmod x0_1 128) + 128)) % 256]) := ⟨_, rfl⟩
      replace H : (spec_PutNum.l0 k1 (wrap64 (Int.tdiv x0_1 128)) y199) = some r := bQ hy199 H
      have Ny199 := aM hy199
      clear hy199
      have H' := aM H
      clear H
      go_wp2_with (first | ((with_reducible refine gate_builtin (b := .append) (xs := #[.tmp 11, .tmp 16]) rfl ?_); at_builtin; refine Kd.R_append (Kd.int .u8) (w0 := w) w.heap.size rfl (.tmp 11) (.tmp 16) 60 5 (.int .u8 0) 1 rfl Try.underlying60 info5 rfl (by decide) (by omega) u3 x3_1 ((wrap64 ((Int.tmod x0_1 128) + 128)) % 256) [.int .u8 ((wrap64 ((Int.tmod x0_1 128) + 128)) % 256)] (fun _ => True) (fun _ => False) rfl rfl ?aP (fun _ hk => hk.elim) ?aF ?aO ?aB ?aS ?aL ?_; (case aP => exact rfl); (case aB => exact bB); (case aF => exact (fun _ _ => trivial)); (case aO => exact (rP HO_3.out)); (case aS => exact (zB HB)); (case aL => have := LMc7.out; omega); intro v200 w8 ho hb hg hat; rw [← Ny199.out] at ho; have n_ := aI (aM (hb)) (aM (ho)); clear HB HO_3; obtain ⟨HB, HO201⟩ := n_; (try clear ho hb hg hat)))
      go_roundg k1
      case measure => have := HK1.out; omega
      case rel => exact ⟨(wrap64 (Int.tdiv x0_1 128)), (y199), (by first | rfl | (simp; done) | (simp [*]; done) | (simp; exact (by intro l_; cases l_ <;> rfl : ∀ l_ : List UInt8, l_.isEmpty = !(l_ != [])) _)), H', ⟨by have := HK1.out; omega⟩, ⟨rP HO201.out⟩, ⟨bB⟩⟩
     ·rw [if_neg c7] at H
      exact absurd H (by simp)
    ·rw [if_neg c6] at H
     have c6b0 : decide (127 < x0_1) = false := decide_eq_false c6
     clear c6
     by_cases c9 : x3_1.length < 140737488355328
     ·rw [if_pos c9] at H
      have LMc9 := aM c9
      clear c9
      obtain ⟨y202, hy202⟩ : ∃ y_ : List Int, y_ = (x3_1 ++ [(x0_1) % 256]) := ⟨_, rfl⟩
      replace H : (some y202) = some r := bQ hy202 H
      have Ny202 := aM hy202
      clear hy202
      obtain rfl := Option.some.inj H
      go_wp2_with (first | ((with_reducible refine gate_builtin (b := .append) (xs := #[.tmp 20, .tmp 23]) rfl ?_); at_builtin; refine Kd.R_append (Kd.int .u8) (w0 := w) w.heap.size rfl (.tmp 20) (.tmp 23) 60 5 (.int .u8 0) 1 rfl Try.underlying60 info5 rfl (by decide) (by omega) u3 x3_1 ((x0_1) % 256) [.int .u8 ((x0_1) % 256)] (fun _ => True) (fun _ => False) rfl rfl ?aP (fun _ hk => hk.elim) ?aF ?aO ?aB ?aS ?aL ?_; (case aP => exact rfl); (case aB => exact bB); (case aF => exact (fun _ _ => trivial)); (case aO => exact (rP HO_3.out)); (case aS => exact (zB HB)); (case aL => have := LMc9.out; omega); intro v203 w10 ho hb hg hat; rw [← Ny202.out] at ho; have n_ := aI (aM (hb)) (aM (ho)); clear HB HO_3; obtain ⟨HB, HO204⟩ := n_; (try clear ho hb hg hat)))
      go_ret
      exact ⟨_, eW, by (with_reducible repeat (first | apply Kd.R_alloc | apply Kd.R_drewN | apply Kd.R_drew)); exact HO204.out, bB⟩
     ·rw [if_neg c9] at H
      exact absurd H (by simp)
 replace c3 := Bool.eq_false_iff.mpr c3
 subst c3
 rw [if_neg (show ¬ (false = true) by decide)] at H
 obtain rfl := Option.some.inj H
 go_enter Try.func129, Try.ntmps129
 go_wp2_with (first | ((with_reducible refine gate_dst (N := 4) rfl ?_); refine Kd.R_lit (Kd.int .u8) _ 5 ?hg (N := 4) ?hd (xs := ([] : List Int)) (inner := []) (ok := fun _ => True) (okp := fun _ => True) ?hr ?hp (fun _ hk => hk) trivial (Below.refl _ _) (Nat.le_refl _) (by simp) ?_; (case hd => rfl); (case hg => rfl); (case hr => first | (go_simp; done) | (go_simp; rfl)); (case hp => exact (Reps.none _ _)); intro v196 w11 ho12 hb hg_ hnew_; clear hg_ hnew_; (first | rw [← Ny195.out] at ho12 | (simp only [Int.reduceToNat] at ho12; rw [← Ny195.out] at ho12)); have n_ := aI (lR HB ho12) (sB HB hb); clear HB; obtain ⟨HO197, HB⟩ := n_; (try clear hb ho12)) | ((with_reducible refine gate_callee (f := 69) rfl ?_); refine gL (some 6) Try.func69 #[.int .i64 a0, .int .i64 0, .int .i64 2147483647] ?_; (with_reducible refine (spec_l1In.calls a0 0 2147483647 false _ A2.out).mono ?_); rintro e w' ⟨rfl, ⟨nd, rfl⟩⟩; refine ⟨_, rfl, ?_⟩))
 go_ret
 exact ⟨_, eW, by (with_reducible repeat (first | apply Kd.R_alloc | apply Kd.R_drewN | apply Kd.R_drew)); exact HO197.out, bB⟩

/-! ### spec_PutText: function 114 -/
def spec_PutText.f (k : Nat) (a0 : ByteArray) : Option (List Int) := (spec_PutNum.f k (a0.size : Int)).bind fun t205 => (if a0.size ≤ 9223372036854775807 then ((some (bytesOf a0 : List Int)).bind fun y208 => (if t205.length + y208.length < 140737488355328 then (some (t205 ++ y208)) else (none))) else (none))
theorem spec_PutText.mono : ∀ a0 k, LeO (spec_PutText.f k a0) (spec_PutText.f (k + 1) a0) := by
 intro a0 k
 unfold spec_PutText.f
 have m0_ := @spec_PutNum.mono
 exact mM
set_option maxHeartbeats 8000000 in
set_option maxRecDepth 100000 in
theorem spec_PutText.calls (k : Nat) (a0 : ByteArray) (r : List Int) (w : World) (h : spec_PutText.f k a0 = some r) :
  Calls Try.prog 114 #[.string a0] w fun e w' => ∃ v0_ : Value, e = .returned (v0_) ∧ Kd.R (Kd.int .u8) 5 w' w.heap.size (fun _ => True) v0_ r ∧ Below w.heap.size w w' := by
 have HB := aM (Below.refl w.heap.size w)
 unfold spec_PutText.f at h
 have H := h
 clear h
 replace H := Option.bind_eq_some_iff.mp H
 obtain ⟨t205, A20, H⟩ := H
 try dsimp only at H
 have A2 := aM A20
 clear A20
 by_cases c3 : a0.size ≤ 9223372036854775807
 ·rw [if_pos c3] at H
  have c3b0 := eq_true c3
  have c3b1 : decide (a0.size ≤ 9223372036854775807) = true := decide_eq_true c3
  try have c3b2 : (9223372036854775807 < a0.size) = False := eq_false (Nat.not_lt.2 c3)
  clear c3
  obtain ⟨y208, hy208⟩ : ∃ y_ : List Int, y_ = (bytesOf a0) := ⟨_, rfl⟩
  replace H : (if t205.length + y208.length < 140737488355328 then (some (t205 ++ y208)) else (none)) = some r := bQ hy208 H
  have Ny208 := aM hy208
  clear hy208
  by_cases c4 : t205.length + y208.length < 140737488355328
  ·rw [if_pos c4] at H
   have LMc4 := aM c4
   clear c4
   obtain ⟨y211, hy211⟩ : ∃ y_ : List Int, y_ = (t205 ++ y208) := ⟨_, rfl⟩
   replace H : (some y211) = some r := bQ hy211 H
   have Ny211 := aM hy211
   clear hy211
   obtain rfl := Option.some.inj H
   go_enter Try.func114, Try.ntmps114
   go_wp2_with (first | ((with_reducible refine gate_callee (f := 129) rfl ?_); refine gL (some 5) Try.func129 #[.int .i64 (a0.size : Int)] ?_; (with_reducible refine (spec_PutNum.calls k (a0.size : Int) t205 _ A2.out).mono ?_); rintro e w5 ⟨v206, rfl, ho0, hb⟩; refine ⟨_, rfl, ?_⟩; have n_ := aI (lR HB ho0) (sB HB hb); clear HB; obtain ⟨HO207, HB⟩ := n_; (try clear hb ho0)) | ((with_reducible refine gate_dst (N := 7) rfl ?_); refine V_bytes 5 rfl (N' := 7) rfl 9 60 _ rfl a0 rfl Try.underlying9 Try.underlying60 Try.underlying5 (by first | (with_reducible assumption) | assumption | exact dT) ?_; intro v209 w6 ho7 hb hg_ hnew_; clear hg_ hnew_; (first | rw [← Ny208.out] at ho7 | (simp only [Int.reduceToNat] at ho7; rw [← Ny208.out] at ho7)); have n_ := aI (rB HO207 hb) (aI (aM (Kd.V_lower (Kd.V_mono (ok' := fun k_ => some k_ ≠ (v206 : Value).ownBlock) ho7 (fun k_ hk_ => (Kd.fresh' (rL HO207) k_ hk_))) (zB HB))) (sB HB hb)); clear HO207 HB; obtain ⟨HO207, HO210, HB⟩ := n_; (try clear hb ho7); obtain ⟨Ao9, co9, eo9⟩ := Kd.V_slice HO210.out; subst eo9) | ((with_reducible refine gate_builtin (b := .append) (xs := #[.tmp 5, .tmp 7]) rfl ?_); at_builtin; refine Kd.R_append_rows (Kd.int .u8) (w0 := w) w.heap.size rfl (.tmp 5) (.tmp 7) 60 5 (.int .u8 0) 1 rfl Try.underlying60 info5 rfl (by decide) (by omega) v206 t205 y208 _ _ _ (fun _ => True) (fun _ => False) rfl rfl ?aO ?aR (fun _ _ h => h) (fun _ h => h.elim) ?aF ?aB ?aS ?aL ?_; (case aR => repeat (first | exact (Kd.V_reads' HO210.out).2.2 | (with_reducible refine Kd.C_alloc ?_ _) | (with_reducible refine Kd.C_drewN ?_ _) | (with_reducible refine Kd.C_drew ?_))); (case aB => exact bB); (case aF => exact (fun _ _ => trivial)); (case aO => exact (rP HO207.out)); (case aS => exact (zB HB)); (case aL => have := LMc4.out; omega); intro v212 w8 ho hb hg hat; rw [← Ny211.out] at ho; have n_ := aI (aM (Kd.V_afterv (ok := (fun _ => True)) (by (with_reducible repeat (first | apply Kd.V_alloc | apply Kd.V_drewN | apply Kd.V_drew)); exact Kd.V_mono HO210.out (fun _ hk => ⟨trivial, hk⟩)) hg hat)) (aI (aM (hb)) (aM (ho))); clear HO210 HB HO207; obtain ⟨HO210, HB, HO213⟩ := n_; (try clear ho hb hg hat)))
   go_ret
   exact ⟨_, eW, by (with_reducible repeat (first | apply Kd.R_alloc | apply Kd.R_drewN | apply Kd.R_drew)); exact HO213.out, bB⟩
  rw [if_neg c4] at H
  exact absurd H (by simp)
 rw [if_neg c3] at H
 exact absurd H (by simp)

/-! ### spec_Crc: function 115 -/
mutual
def spec_Crc.l0 : Nat → List Int → Int → Int → Option (Int)
 | 0, _, _, _ => none
 | k + 1, x0, x3, x4 => if x4 < (x0.length : Int) then (if 0 ≤ x4 then (spec_Crc.l1 k x0 (Go.bits .xor .i64 x3 (wrap64 (rd x0 x4))) x4 0) else (none)) else (some (Go.bits .xor .i64 x3 4294967295))
def spec_Crc.l1 : Nat → List Int → Int → Int → Int → Option (Int)
 | 0, _, _, _, _ => none
 | k + 1, x0, x3, x4, x5 => if x5 < 8 then (if (Int.tmod x3 2) = 1 then (spec_Crc.l1 k x0 (Go.bits .xor .i64 (wrap64 (Int.tdiv x3 2)) 3988292384) x4 (wrap64 (x5 + 1))) else (spec_Crc.l1 k x0 (wrap64 (Int.tdiv x3 2)) x4 (wrap64 (x5 + 1)))) else (spec_Crc.l0 k x0 x3 (wrap64 (x4 + 1)))
end
def spec_Crc.f (k : Nat) (l0 : List Int) : Option (Int) := spec_Crc.l0 k l0 4294967295 0
theorem spec_Crc.mono_l : ∀ k, (∀ y0 y1 y2, LeO (spec_Crc.l0 k y0 y1 y2) (spec_Crc.l0 (k + 1) y0 y1 y2)) ∧ (∀ y0 y1 y2 y3, LeO (spec_Crc.l1 k y0 y1 y2 y3) (spec_Crc.l1 (k + 1) y0 y1 y2 y3))
 | 0 => ⟨fun _ _ _ r h => by simp [spec_Crc.l0] at h, fun _ _ _ _ r h => by simp [spec_Crc.l1] at h⟩
 | k + 1 => by
  obtain ⟨ih0, ih1⟩ := spec_Crc.mono_l k
  refine ⟨?_, ?_⟩
  ·intro y0 y1 y2
   unfold spec_Crc.l0
   exact mM
  ·intro y0 y1 y2 y3
   unfold spec_Crc.l1
   exact mM
theorem spec_Crc.mono : ∀ a0 k, LeO (spec_Crc.f k a0) (spec_Crc.f (k + 1) a0) := by
 intro a0 k
 obtain ⟨ih0, ih1⟩ := spec_Crc.mono_l k
 unfold spec_Crc.f
 exact mM
set_option maxHeartbeats 8000000 in
set_option maxRecDepth 100000 in
theorem spec_Crc.calls (k : Nat) (A0 : Option Addr) (c0 : Nat) (l0 : List Int) (r : Int) (w : World) (hr0 : Kd.C (Kd.int .u8) w A0 l0.length l0) (hc0 : l0.length ≤ c0) (h : spec_Crc.f k l0 = some r) :
  Calls Try.prog 115 #[.slice A0 l0.length c0] w fun e w' => e = .returned (.int .i64 r) ∧ Drawn0 w w' := by
 have HR0 := aM hr0
 have HC0 := aM hc0
 clear hr0 hc0
 unfold spec_Crc.f at h
 have H := h
 clear h
 have H' := aM H
 clear H
 go_enter Try.func115, Try.ntmps115
 go_wp2
 go_loopg [3, 4] k (fun kq v3 v4 w' => ∃ (x3_1 : Int) (x4_1 : Int), v3 = .int .i64 x3_1 ∧ v4 = .int .i64 x4_1 ∧ Aside0 (spec_Crc.l0 kq l0 x3_1 x4_1 = some r) ∧ Aside0 (kq ≤ k) ∧ Drawn0 w w')
 case atStart => exact ⟨(4294967295), (0), (by first | rfl | (simp; done) | (simp [*]; done) | (simp; exact (by intro l_; cases l_ <;> rfl : ∀ l_ : List UInt8, l_.isEmpty = !(l_ != [])) _)), (by first | rfl | (simp; done) | (simp [*]; done) | (simp; exact (by intro l_; cases l_ <;> rfl : ∀ l_ : List UInt8, l_.isEmpty = !(l_ != [])) _)), H', ⟨Nat.le_refl _⟩, by repeat (first | exact Drawn0.refl _ | apply Drawn0.step)⟩
 case round =>
  clear H'
  try clear c1
  obtain ⟨x3_1, x4_1, rfl, rfl, HA, HK1, ⟨m1, rfl⟩⟩ := hrel
  cases gk with
  | zero => exact absurd HA.out (by simp [spec_Crc.l0])
  | succ k1 =>
   have H := HA.out
   clear HA
   simp only [spec_Crc.l0] at H
   by_cases c2 : x4_1 < (l0.length : Int)
   ·rw [if_pos c2] at H
    have c2b0 : decide (x4_1 < (l0.length : Int)) = true := decide_eq_true c2
    clear c2
    by_cases c3 : 0 ≤ x4_1
    ·rw [if_pos c3] at H
     have c3b0 : decide (0 ≤ x4_1) = true := decide_eq_true c3
     clear c3
     have H' := aM H
     clear H
     have p214 : 0 ≤ (x4_1 : Int) := dT
     have q214 : x4_1 < (l0.length : Int) := dT
     obtain ⟨ad214, e214, hx214_0⟩ := Kd.at_int HR0.out x4_1 p214 q214
     cases e214
     replace p214 := eq_true p214
     replace q214 := eq_true q214
     go_wp2
     go_loopg [3, 5] k1 (fun kq v3 v5 w' => ∃ (x3_2 : Int) (x5_2 : Int), v3 = .int .i64 x3_2 ∧ v5 = .int .i64 x5_2 ∧ Aside0 (spec_Crc.l1 kq l0 x3_2 x4_1 x5_2 = some r) ∧ Aside0 (kq ≤ k1) ∧ Drawn0 w w')
     case atStart => exact ⟨(Go.bits .xor .i64 x3_1 (wrap64 (rd l0 x4_1))), (0), (by first | rfl | (simp; done) | (simp [*]; done) | (simp; exact (by intro l_; cases l_ <;> rfl : ∀ l_ : List UInt8, l_.isEmpty = !(l_ != [])) _)), (by first | rfl | (simp; done) | (simp [*]; done) | (simp; exact (by intro l_; cases l_ <;> rfl : ∀ l_ : List UInt8, l_.isEmpty = !(l_ != [])) _)), H', ⟨Nat.le_refl _⟩, by repeat (first | exact Drawn0.refl _ | apply Drawn0.step)⟩
     case round =>
      clear H'
      try clear c1
      try clear c2
      try clear c2b0
      try clear p2
      try clear q2
      try clear hx2
      try clear c3
      try clear c3b0
      try clear hx214_0
      try clear p214
      try clear q214
      obtain ⟨x3_2, x5_2, rfl, rfl, HA, HK2, ⟨m2, rfl⟩⟩ := hrel
      cases gk with
      | zero => exact absurd HA.out (by simp [spec_Crc.l1])
      | succ k2 =>
       have H := HA.out
       clear HA
       simp only [spec_Crc.l1] at H
       by_cases c4 : x5_2 < 8
       ·rw [if_pos c4] at H
        have c4b0 : decide (x5_2 < 8) = true := decide_eq_true c4
        clear c4
        by_cases c5 : (Int.tmod x3_2 2) = 1
        ·rw [if_pos c5] at H
         have c5b0 : ((Int.tmod x3_2 2) == 1) = true := beq_iff_eq.mpr c5
         have c5b1 : ((Int.tmod x3_2 2) != 1) = false := bne_eq_false_iff_eq.mpr c5
         clear c5
         have H' := aM H
         clear H
         go_wp2
         go_roundg k2
         case measure => have := HK1.out; have := HK2.out; omega
         case rel => exact ⟨(Go.bits .xor .i64 (wrap64 (Int.tdiv x3_2 2)) 3988292384), (wrap64 (x5_2 + 1)), (by first | rfl | (simp; done) | (simp [*]; done) | (simp; exact (by intro l_; cases l_ <;> rfl : ∀ l_ : List UInt8, l_.isEmpty = !(l_ != [])) _)), (by first | rfl | (simp; done) | (simp [*]; done) | (simp; exact (by intro l_; cases l_ <;> rfl : ∀ l_ : List UInt8, l_.isEmpty = !(l_ != [])) _)), H', ⟨by have := HK1.out; have := HK2.out; omega⟩, by repeat (first | exact Drawn0.refl _ | apply Drawn0.step)⟩
        ·rw [if_neg c5] at H
         have c5b0 : ((Int.tmod x3_2 2) == 1) = false := beq_eq_false_iff_ne.mpr c5
         have c5b1 : ((Int.tmod x3_2 2) != 1) = true := bne_iff_ne.mpr c5
         have H' := aM H
         clear H
         go_wp2
         go_roundg k2
         case measure => have := HK1.out; have := HK2.out; omega
         case rel => exact ⟨(wrap64 (Int.tdiv x3_2 2)), (wrap64 (x5_2 + 1)), (by first | rfl | (simp; done) | (simp [*]; done) | (simp; exact (by intro l_; cases l_ <;> rfl : ∀ l_ : List UInt8, l_.isEmpty = !(l_ != [])) _)), (by first | rfl | (simp; done) | (simp [*]; done) | (simp; exact (by intro l_; cases l_ <;> rfl : ∀ l_ : List UInt8, l_.isEmpty = !(l_ != [])) _)), H', ⟨by have := HK1.out; have := HK2.out; omega⟩, by repeat (first | exact Drawn0.refl _ | apply Drawn0.step)⟩
       ·rw [if_neg c4] at H
        have c4b0 : decide (x5_2 < 8) = false := decide_eq_false c4
        clear c4
        have H' := aM H
        clear H
        go_wp2
        go_roundg k2
        case measure => have := HK1.out; have := HK2.out; omega
        case rel => exact ⟨(x3_2), (wrap64 (x4_1 + 1)), (by first | rfl | (simp; done) | (simp [*]; done) | (simp; exact (by intro l_; cases l_ <;> rfl : ∀ l_ : List UInt8, l_.isEmpty = !(l_ != [])) _)), (by first | rfl | (simp; done) | (simp [*]; done) | (simp; exact (by intro l_; cases l_ <;> rfl : ∀ l_ : List UInt8, l_.isEmpty = !(l_ != [])) _)), H', ⟨by have := HK1.out; have := HK2.out; omega⟩, by repeat (first | exact Drawn0.refl _ | apply Drawn0.step)⟩
    ·rw [if_neg c3] at H
     exact absurd H (by simp)
   ·rw [if_neg c2] at H
    have c2b0 : decide (x4_1 < (l0.length : Int)) = false := decide_eq_false c2
    clear c2
    obtain rfl := Option.some.inj H
    go_wp2
    go_ret
    exact ⟨by first | rfl | (simp; done) | (simp [*]; done), by repeat (first | exact Drawn0.refl _ | apply Drawn0.step)⟩

/-! ### spec_l4Sum: function 85 -/
def spec_l4Sum.l0 : Nat → List ByteArray → List Int → Int → Option (Int)
 | 0, _, _, _ => none
 | k + 1, x0, x3, x4 => if x4 < (x0.length : Int) then (if 0 ≤ x4 then ((spec_PutText.f k (rdOf ByteArray.empty x0 x4)).bind fun t219 => (if x3.length + t219.length < 140737488355328 then (spec_l4Sum.l0 k x0 (x3 ++ t219) (wrap64 (x4 + 1))) else (none))) else (none)) else ((spec_Crc.f k x3).bind fun t225 => (some t225))
def spec_l4Sum.f (k : Nat) (l0 : List ByteArray) : Option (Int) := spec_l4Sum.l0 k l0 (([] : List Int)) 0
theorem spec_l4Sum.mono_l : ∀ k, (∀ y0 y1 y2, LeO (spec_l4Sum.l0 k y0 y1 y2) (spec_l4Sum.l0 (k + 1) y0 y1 y2))
 | 0 => fun _ _ _ r h => by simp [spec_l4Sum.l0] at h
 | k + 1 => by
  have ih0 := spec_l4Sum.mono_l k
  ·intro y0 y1 y2
   unfold spec_l4Sum.l0
   have m0_ := @spec_Crc.mono
   have m1_ := @spec_PutText.mono
   exact mM
theorem spec_l4Sum.mono : ∀ a0 k, LeO (spec_l4Sum.f k a0) (spec_l4Sum.f (k + 1) a0) := by
 intro a0 k
 have ih0 := spec_l4Sum.mono_l k
 unfold spec_l4Sum.f
 have m0_ := @spec_Crc.mono
 have m1_ := @spec_PutText.mono
 exact mM
set_option maxHeartbeats 8000000 in
set_option maxRecDepth 100000 in
theorem spec_l4Sum.calls (k : Nat) (A0 : Option Addr) (c0 : Nat) (l0 : List ByteArray) (r : Int) (w : World) (hr0 : Kd.C Kd.string w A0 l0.length l0) (hc0 : l0.length ≤ c0) (h : spec_l4Sum.f k l0 = some r) :
  Calls Try.prog 85 #[.slice A0 l0.length c0] w fun e w' => e = .returned (.int .i64 r) ∧ Below w.heap.size w w' := by
 have HR0 := aM hr0
 have HC0 := aM hc0
 clear hr0 hc0
 have HB := aM (Below.refl w.heap.size w)
 unfold spec_l4Sum.f at h
 have H := h
 clear h
 obtain ⟨y215, hy215⟩ : ∃ y_ : List Int, y_ = (([] : List Int)) := ⟨_, rfl⟩
 replace H : (spec_l4Sum.l0 k l0 y215 0) = some r := bQ hy215 H
 have Ny215 := aM hy215
 clear hy215
 have H' := aM H
 clear H
 go_enter Try.func85, Try.ntmps85
 go_wp2_with (first | ((with_reducible refine gate_dst (N := 5) rfl ?_); refine Kd.R_lit (Kd.int .u8) _ 5 ?hg (N := 5) ?hd (xs := ([] : List Int)) (inner := []) (ok := fun _ => True) (okp := fun _ => True) ?hr ?hp (fun _ hk => hk) trivial (Below.refl _ _) (Nat.le_refl _) (by simp) ?_; (case hd => rfl); (case hg => rfl); (case hr => first | (go_simp; done) | (go_simp; rfl)); (case hp => exact (Reps.none _ _)); intro v216 w2 ho3 hb hg_ hnew_; clear hg_ hnew_; (first | rw [← Ny215.out] at ho3 | (simp only [Int.reduceToNat] at ho3; rw [← Ny215.out] at ho3)); have n_ := aI (lR HB ho3) (sB HB hb); clear HB; obtain ⟨HO217, HB⟩ := n_; (try clear hb ho3)))
 go_loopg [3, 4] k (fun kq v3 v4 w' => ∃ (x3_1 : List Int) (x4_1 : Int), v4 = .int .i64 x4_1 ∧ Aside0 (spec_l4Sum.l0 kq l0 x3_1 x4_1 = some r) ∧ Aside0 (kq ≤ k) ∧ Aside0 (Kd.R (Kd.int .u8) 5 w' w.heap.size (fun _ => True) v3 x3_1) ∧ Aside0 (Below w.heap.size w w'))
 case atStart => exact ⟨(y215), (0), (by first | rfl | (simp; done) | (simp [*]; done) | (simp; exact (by intro l_; cases l_ <;> rfl : ∀ l_ : List UInt8, l_.isEmpty = !(l_ != [])) _)), H', ⟨Nat.le_refl _⟩, ⟨rP HO217.out⟩, ⟨bB⟩⟩
 case round =>
  clear H'
  try clear p2
  obtain ⟨x3_1, x4_1, rfl, HA, HK1, HO_3, HB⟩ := hrel
  cases gk with
  | zero => exact absurd HA.out (by simp [spec_l4Sum.l0])
  | succ k1 =>
   have H := HA.out
   clear HA
   simp only [spec_l4Sum.l0] at H
   by_cases c4 : x4_1 < (l0.length : Int)
   ·rw [if_pos c4] at H
    have c4b0 : decide (x4_1 < (l0.length : Int)) = true := decide_eq_true c4
    clear c4
    by_cases c5 : 0 ≤ x4_1
    ·rw [if_pos c5] at H
     have c5b0 : decide (0 ≤ x4_1) = true := decide_eq_true c5
     clear c5
     replace H := Option.bind_eq_some_iff.mp H
     obtain ⟨t219, A60, H⟩ := H
     try dsimp only at H
     have A6 := aM A60
     clear A60
     by_cases c7 : x3_1.length + t219.length < 140737488355328
     ·rw [if_pos c7] at H
      have LMc7 := aM c7
      clear c7
      obtain ⟨y222, hy222⟩ : ∃ y_ : List Int, y_ = (x3_1 ++ t219) := ⟨_, rfl⟩
      replace H : (spec_l4Sum.l0 k1 l0 y222 (wrap64 (x4_1 + 1))) = some r := bQ hy222 H
      have Ny222 := aM hy222
      clear hy222
      have H' := aM H
      clear H
      have p218 : 0 ≤ (x4_1 : Int) := dT
      have q218 : x4_1 < (l0.length : Int) := dT
      obtain ⟨ad218, e218, hx218_0⟩ := Kd.at_string HR0.out x4_1 p218 q218
      cases e218
      replace hx218_0 := (HB.out.cell (World.block_lt_of_cell? w _ hx218_0)).trans hx218_0
      replace p218 := eq_true p218
      replace q218 := eq_true q218
      go_wp2_with (first | ((with_reducible refine gate_callee (f := 114) rfl ?_); refine gL (some 17) Try.func114 #[.string (rdOf ByteArray.empty l0 x4_1)] ?_; (with_reducible refine (spec_PutText.calls k1 (rdOf ByteArray.empty l0 x4_1) t219 _ A6.out).mono ?_); rintro e w8 ⟨v220, rfl, ho0, hb⟩; refine ⟨_, rfl, ?_⟩; have n_ := aI (eR HO_3 ho0 hb) (aI (aM (Kd.R_lower (Kd.R_new' ho0 (rL HO_3)) (zB HB))) (sB HB hb)); clear HO_3 HB; obtain ⟨HO_3, HO221, HB⟩ := n_; (try clear hb ho0); obtain ⟨Ao10, co10, eo10⟩ := Kd.R_slice HO221.out; subst eo10) | ((with_reducible refine gate_builtin (b := .append) (xs := #[.tmp 12, .tmp 17]) rfl ?_); at_builtin; refine Kd.R_append_rows (Kd.int .u8) (w0 := w) w.heap.size rfl (.tmp 12) (.tmp 17) 60 5 (.int .u8 0) 1 rfl Try.underlying60 info5 rfl (by decide) (by omega) u3 x3_1 t219 _ _ _ (fun k_ => some k_ ≠ (.slice Ao10 t219.length co10 : Value).ownBlock) (fun _ => False) rfl rfl ?aO ?aR (fun _ _ h => h) (fun _ h => h.elim) ?aF ?aB ?aS ?aL ?_; (case aR => exact cR HO221); (case aB => exact bB); (case aF => exact (fun k_ hk => Kd.fresh' (rL HO221) k_ hk)); (case aO => exact (rP (Kd.R_mono HO_3.out (fun _ hk => hk.2)))); (case aS => exact (zB HB)); (case aL => have := LMc7.out; omega); intro v223 w9 ho hb hg hat; rw [← Ny222.out] at ho; have n_ := aI (aM (Kd.R_after (ok := (fun _ => True)) (rP HO221.out) hg hat)) (aI (aM (hb)) (aM (ho))); clear HO221 HB HO_3; obtain ⟨HO221, HB, HO224⟩ := n_; (try clear ho hb hg hat)))
      go_roundg k1
      case measure => have := HK1.out; omega
      case rel => exact ⟨(y222), (wrap64 (x4_1 + 1)), (by first | rfl | (simp; done) | (simp [*]; done) | (simp; exact (by intro l_; cases l_ <;> rfl : ∀ l_ : List UInt8, l_.isEmpty = !(l_ != [])) _)), H', ⟨by have := HK1.out; omega⟩, ⟨rP (Kd.R_mono HO224.out (fun _ hk => trivial))⟩, ⟨bB⟩⟩
     ·rw [if_neg c7] at H
      exact absurd H (by simp)
    ·rw [if_neg c5] at H
     exact absurd H (by simp)
   ·rw [if_neg c4] at H
    have c4b0 : decide (x4_1 < (l0.length : Int)) = false := decide_eq_false c4
    clear c4
    replace H := Option.bind_eq_some_iff.mp H
    obtain ⟨t225, A110, H⟩ := H
    try dsimp only at H
    have A11 := aM A110
    clear A110
    obtain rfl := Option.some.inj H
    obtain ⟨Ao12, co12, eo12⟩ := Kd.R_slice HO_3.out
    subst eo12
    go_wp2_with (first | ((with_reducible refine gate_callee (f := 115) rfl ?_); refine gL (some 20) Try.func115 #[.slice Ao12 x3_1.length co12] ?_; (with_reducible refine (spec_Crc.calls k1 _ _ x3_1 t225 _ ?side1 ?side2 A11.out).mono ?_); (case side1 => exact cR HO_3); (case side2 => exact (Kd.R_reads' HO_3.out).2.1); rintro e w' ⟨rfl, ⟨nd, rfl⟩⟩; refine ⟨_, rfl, ?_⟩))
    go_ret
    exact ⟨eW, bB⟩

end Go.Proofs.Ytgmpdkefegofhaa.PFnRecovered
