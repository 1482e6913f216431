-- Written by xprint.py, a program of this session over the kit's print. Not trusted: Lean checks it.
import Derived.Test.YtgmpdkefegofhaaPFnRecoveredx0
import Derived.Test.YtgmpdkefegofhaaPFnRecoveredx2
import Derived.Test.YtgmpdkefegofhaaPFnRecoveredx6
namespace Go.Proofs.Ytgmpdkefegofhaa.PFnRecovered
open Go.RowKit Go.Proofs.YtgmpdkefegofhaaW.PrintWords Go.Proofs.YtgmpdkefegofhaaW.PrintLast Go.Proofs.YtgmpdkefegofhaaW.PrintMore
attribute [local go_sem] max2_int min2_int max_two min_two max_three min_three max_four min_four   -- for this text's walks alone
set_option linter.unusedVariables false
set_option linter.unusedSimpArgs false

/-! ### impl_GetNum: function 116 -/
mutual
def impl_GetNum.l0 : Nat → List Int → Int → Int → Int → Option (Int × Int × Bool)
 | 0, _, _, _, _ => none
 | k + 1, x0, x1, x7, x8 => if x8 < 5 then (impl_GetNum.j1 k x0 x1 x7 x8 (decide ((wrap64 (x1 + x8)) < (x0.length : Int)))) else (impl_GetNum.j1 k x0 x1 x7 x8 false)
def impl_GetNum.j1 : Nat → List Int → Int → Int → Int → Bool → Option (Int × Int × Bool)
 | 0, _, _, _, _, _ => none
 | k + 1, x0, x1, x7, x8, x24 => if x24 = true then (if 0 ≤ (wrap64 (x1 + x8)) then (if (wrap64 (x1 + x8)) < (x0.length : Int) then (if 0 ≤ (wrap64 (7 * x8)) then (if (wrap64 (rd x0 (wrap64 (x1 + x8)))) ≥ 128 then (impl_GetNum.l0 k x0 x1 (Go.bits .or .i64 x7 (shl .i64 (Go.bits .and .i64 (wrap64 (rd x0 (wrap64 (x1 + x8)))) 127) (wrap64 (7 * x8)))) (wrap64 (x8 + 1))) else (if (wrap64 (rd x0 (wrap64 (x1 + x8)))) = 0 then (if x8 > 0 then (some (0, 0, false)) else (if (Go.bits .or .i64 x7 (shl .i64 (Go.bits .and .i64 (wrap64 (rd x0 (wrap64 (x1 + x8)))) 127) (wrap64 (7 * x8)))) > 2147483647 then (some (0, 0, false)) else (some (Go.bits .or .i64 x7 (shl .i64 (Go.bits .and .i64 (wrap64 (rd x0 (wrap64 (x1 + x8)))) 127) (wrap64 (7 * x8))), wrap64 ((wrap64 (x1 + x8)) + 1), true)))) else (if (Go.bits .or .i64 x7 (shl .i64 (Go.bits .and .i64 (wrap64 (rd x0 (wrap64 (x1 + x8)))) 127) (wrap64 (7 * x8)))) > 2147483647 then (some (0, 0, false)) else (some (Go.bits .or .i64 x7 (shl .i64 (Go.bits .and .i64 (wrap64 (rd x0 (wrap64 (x1 + x8)))) 127) (wrap64 (7 * x8))), wrap64 ((wrap64 (x1 + x8)) + 1), true))))) else (none)) else (none)) else (none)) else (some (0, 0, false))
end
def impl_GetNum.f (k : Nat) (l0 : List Int) (a1 : Int) : Option (Int × Int × Bool) := (impl_within.f a1 0 (l0.length : Int)).bind fun t266 => (if t266 = true then (impl_GetNum.l0 k l0 a1 0 0) else (some (0, 0, false)))
theorem impl_GetNum.mono_l : ∀ k, (∀ y0 y1 y2 y3, LeO (impl_GetNum.l0 k y0 y1 y2 y3) (impl_GetNum.l0 (k + 1) y0 y1 y2 y3)) ∧ (∀ y0 y1 y2 y3 y4, LeO (impl_GetNum.j1 k y0 y1 y2 y3 y4) (impl_GetNum.j1 (k + 1) y0 y1 y2 y3 y4))
 | 0 => ⟨fun _ _ _ _ r h => by simp [impl_GetNum.l0] at h, fun _ _ _ _ _ r h => by simp [impl_GetNum.j1] at h⟩
 | k + 1 => by
  obtain ⟨ih0, ih1⟩ := impl_GetNum.mono_l k
  refine ⟨?_, ?_⟩
  ·intro y0 y1 y2 y3
   unfold impl_GetNum.l0
   exact mM
  ·intro y0 y1 y2 y3 y4
   unfold impl_GetNum.j1
   exact mM
theorem impl_GetNum.mono : ∀ a0 a1 k, LeO (impl_GetNum.f k a0 a1) (impl_GetNum.f (k + 1) a0 a1) := by
 intro a0 a1 k
 obtain ⟨ih0, ih1⟩ := impl_GetNum.mono_l k
 unfold impl_GetNum.f
 exact mM
set_option maxHeartbeats 8000000 in
set_option maxRecDepth 100000 in
theorem impl_GetNum.calls (k : Nat) (A0 : Option Addr) (c0 : Nat) (l0 : List Int) (a1 : Int) (r1 : Int) (r2 : Int) (r3 : Bool) (w : World) (hr0 : Kd.C (Kd.int .u8) w A0 l0.length l0) (hc0 : l0.length ≤ c0) (h : impl_GetNum.f k l0 a1 = some (r1, r2, r3)) :
  Calls Try.prog 116 #[.slice A0 l0.length c0, .int .i64 a1] w fun e w' => e = .returned (.tuple #[.int .i64 r1, .int .i64 r2, .bool r3]) ∧ Drawn0 w w' := by
 have HR0 := aM hr0
 have HC0 := aM hc0
 clear hr0 hc0
 unfold impl_GetNum.f at h
 have H := h
 clear h
 replace H := Option.bind_eq_some_iff.mp H
 obtain ⟨t266, A30, H⟩ := H
 try dsimp only at H
 have A3 := aM A30
 clear A30
 by_cases c4 : t266 = true
 ·subst c4
  rw [if_pos rfl] at H
  have H' := aM H
  clear H
  go_enter Try.func116, Try.ntmps116
  go_wp2_with (first | ((with_reducible refine gate_callee (f := 67) rfl ?_); refine gL (some 13) Try.func67 #[.int .i64 a1, .int .i64 0, .int .i64 (l0.length : Int)] ?_; (with_reducible refine (impl_within.calls a1 0 (l0.length : Int) true _ A3.out).mono ?_); rintro e w' ⟨rfl, ⟨nd, rfl⟩⟩; refine ⟨_, rfl, ?_⟩))
  go_loopg [7, 8] k (fun kq v7 v8 w' => ∃ (x7_1 : Int) (x8_1 : Int), v7 = .int .i64 x7_1 ∧ v8 = .int .i64 x8_1 ∧ Aside0 (impl_GetNum.l0 kq l0 a1 x7_1 x8_1 = some (r1, r2, r3)) ∧ Aside0 (kq ≤ k) ∧ Drawn0 w w')
  case atStart => exact ⟨(0), (0), (by first | rfl | (simp; done) | (simp [*]; done) | (simp; exact (by intro l_; cases l_ <;> rfl : ∀ l_ : List UInt8, l_.isEmpty = !(l_ != [])) _)), (by first | rfl | (simp; done) | (simp [*]; done) | (simp; exact (by intro l_; cases l_ <;> rfl : ∀ l_ : List UInt8, l_.isEmpty = !(l_ != [])) _)), H', ⟨Nat.le_refl _⟩, by repeat (first | exact Drawn0.refl _ | apply Drawn0.step)⟩
  case round =>
   clear H'
   try clear c1
   try clear p2
   try clear c4
   obtain ⟨x7_1, x8_1, rfl, rfl, HA, HK1, ⟨m1, rfl⟩⟩ := hrel
   cases gk with
   | zero => exact absurd HA.out (by simp [impl_GetNum.l0])
   | succ k1 =>
    have H := HA.out
    clear HA
    simp only [impl_GetNum.l0] at H
    have HC5 := aM H
    clear H
    go_upto_region 5 with (fail)
    go_cut [24] (fun v24 wc => ∃ (kq : Nat) (x24_4 : Bool), v24 = .bool x24_4 ∧ Aside0 (impl_GetNum.j1 kq l0 a1 x7_1 x8_1 x24_4 = some (r1, r2, r3)) ∧ Aside0 (kq ≤ k1) ∧ Drawn0 w wc)
    case first =>
     have H := HC5.out
     clear HC5
     by_cases c6 : x8_1 < 5
     ·rw [if_pos c6] at H
      have c6b0 : decide (x8_1 < 5) = true := decide_eq_true c6
      clear c6
      (first | rw [c6b0] | (simp only [i64_w, i32_w]; rw [c6b0]) | rw [c6b1] | rw [c6b2] | skip)
      have H' := aM H
      clear H
      go_wp2
      go_meet
      case rel => exact ⟨_, (decide ((wrap64 (a1 + x8_1)) < (l0.length : Int))), (by first | rfl | (simp; done) | (simp [*]; done) | (simp; exact (by intro l_; cases l_ <;> rfl : ∀ l_ : List UInt8, l_.isEmpty = !(l_ != [])) _)), H', ⟨by have := HK1.out; first | omega | exact Nat.le_refl _⟩, by repeat (first | exact Drawn0.refl _ | apply Drawn0.step)⟩
     ·rw [if_neg c6] at H
      have c6b0 : decide (x8_1 < 5) = false := decide_eq_false c6
      clear c6
      (first | rw [c6b0] | (simp only [i64_w, i32_w]; rw [c6b0]) | rw [c6b1] | rw [c6b2] | skip)
      have H' := aM H
      clear H
      go_wp2
      go_meet
      case rel => exact ⟨_, (false), (by first | rfl | (simp; done) | (simp [*]; done) | (simp; exact (by intro l_; cases l_ <;> rfl : ∀ l_ : List UInt8, l_.isEmpty = !(l_ != [])) _)), H', ⟨by have := HK1.out; first | omega | exact Nat.le_refl _⟩, by repeat (first | exact Drawn0.refl _ | apply Drawn0.step)⟩
    case rest =>
     clear HC5
     try clear c1
     try clear p2
     try clear c4
     try clear c6
     try clear c6b0
     try clear c6b1
     try clear c6b2
     try clear p6
     try clear p2
     obtain ⟨kq, x24_4, rfl, HA, HJ4, ⟨mc4, rfl⟩⟩ := hcut
     cases kq with
     | zero => exact absurd HA.out (by simp [impl_GetNum.j1])
     | succ kj4 =>
      have H := HA.out
      clear HA
      simp only [impl_GetNum.j1] at H
      by_cases c7 : x24_4 = true
      ·subst c7
       rw [if_pos rfl] at H
       obtain ⟨ji8, hji8⟩ : ∃ j_ : Int, (wrap64 (a1 + x8_1)) = j_ := ⟨_, rfl⟩
       replace H : (if 0 ≤ (ji8) then (if (ji8) < (l0.length : Int) then (if 0 ≤ (wrap64 (7 * x8_1)) then (if (wrap64 (rd l0 (ji8))) ≥ 128 then (impl_GetNum.l0 kj4 l0 a1 (Go.bits .or .i64 x7_1 (shl .i64 (Go.bits .and .i64 (wrap64 (rd l0 (ji8))) 127) (wrap64 (7 * x8_1)))) (wrap64 (x8_1 + 1))) else (if (wrap64 (rd l0 (ji8))) = 0 then (if x8_1 > 0 then (some (0, 0, false)) else (if (Go.bits .or .i64 x7_1 (shl .i64 (Go.bits .and .i64 (wrap64 (rd l0 (ji8))) 127) (wrap64 (7 * x8_1)))) > 2147483647 then (some (0, 0, false)) else (some (Go.bits .or .i64 x7_1 (shl .i64 (Go.bits .and .i64 (wrap64 (rd l0 (ji8))) 127) (wrap64 (7 * x8_1))), wrap64 ((ji8) + 1), true)))) else (if (Go.bits .or .i64 x7_1 (shl .i64 (Go.bits .and .i64 (wrap64 (rd l0 (ji8))) 127) (wrap64 (7 * x8_1)))) > 2147483647 then (some (0, 0, false)) else (some (Go.bits .or .i64 x7_1 (shl .i64 (Go.bits .and .i64 (wrap64 (rd l0 (ji8))) 127) (wrap64 (7 * x8_1))), wrap64 ((ji8) + 1), true))))) else (none)) else (none)) else (none)) = some (r1, r2, r3) := by first | (rw [hji8] at H; exact H) | (simp only [hji8] at H ⊢; exact H)
       have hji8w : (IntKind.i64.wrap (a1 + x8_1)) = ji8 := (i64_w _).trans hji8
       by_cases c9 : 0 ≤ (ji8)
       ·rw [if_pos c9] at H
        have c9b0 : decide (0 ≤ (ji8)) = true := decide_eq_true c9
        clear c9
        by_cases c10 : (ji8) < (l0.length : Int)
        ·rw [if_pos c10] at H
         have c10b0 : decide ((ji8) < (l0.length : Int)) = true := decide_eq_true c10
         clear c10
         obtain ⟨ji11, hji11⟩ : ∃ j_ : Int, (wrap64 (7 * x8_1)) = j_ := ⟨_, rfl⟩
         replace H : (if 0 ≤ (ji11) then (if (wrap64 (rd l0 (ji8))) ≥ 128 then (impl_GetNum.l0 kj4 l0 a1 (Go.bits .or .i64 x7_1 (shl .i64 (Go.bits .and .i64 (wrap64 (rd l0 (ji8))) 127) (ji11))) (wrap64 (x8_1 + 1))) else (if (wrap64 (rd l0 (ji8))) = 0 then (if x8_1 > 0 then (some (0, 0, false)) else (if (Go.bits .or .i64 x7_1 (shl .i64 (Go.bits .and .i64 (wrap64 (rd l0 (ji8))) 127) (ji11))) > 2147483647 then (some (0, 0, false)) else (some (Go.bits .or .i64 x7_1 (shl .i64 (Go.bits .and .i64 (wrap64 (rd l0 (ji8))) 127) (ji11)), wrap64 ((ji8) + 1), true)))) else (if (Go.bits .or .i64 x7_1 (shl .i64 (Go.bits .and .i64 (wrap64 (rd l0 (ji8))) 127) (ji11))) > 2147483647 then (some (0, 0, false)) else (some (Go.bits .or .i64 x7_1 (shl .i64 (Go.bits .and .i64 (wrap64 (rd l0 (ji8))) 127) (ji11)), wrap64 ((ji8) + 1), true))))) else (none)) = some (r1, r2, r3) := by first | (rw [hji11] at H; exact H) | (simp only [hji11] at H ⊢; exact H)
         have hji11w : (IntKind.i64.wrap (7 * x8_1)) = ji11 := (i64_w _).trans hji11
         by_cases c12 : 0 ≤ (ji11)
         ·rw [if_pos c12] at H
          have c12b0 := eq_true c12
          have c12b1 : decide (0 ≤ (ji11)) = true := decide_eq_true c12
          clear c12
          obtain ⟨ji13, hji13⟩ : ∃ j_ : Int, (shl .i64 (Go.bits .and .i64 (wrap64 (rd l0 (ji8))) 127) (ji11)) = j_ := ⟨_, rfl⟩
          replace H : (if (wrap64 (rd l0 (ji8))) ≥ 128 then (impl_GetNum.l0 kj4 l0 a1 (Go.bits .or .i64 x7_1 (ji13)) (wrap64 (x8_1 + 1))) else (if (wrap64 (rd l0 (ji8))) = 0 then (if x8_1 > 0 then (some (0, 0, false)) else (if (Go.bits .or .i64 x7_1 (ji13)) > 2147483647 then (some (0, 0, false)) else (some (Go.bits .or .i64 x7_1 (ji13), wrap64 ((ji8) + 1), true)))) else (if (Go.bits .or .i64 x7_1 (ji13)) > 2147483647 then (some (0, 0, false)) else (some (Go.bits .or .i64 x7_1 (ji13), wrap64 ((ji8) + 1), true))))) = some (r1, r2, r3) := by first | (rw [hji13] at H; exact H) | (simp only [hji13] at H ⊢; exact H)
          have hji13_ : (IntKind.i64.wrap ((Go.bits .and .i64 (wrap64 (rd l0 (ji8))) 127) * 2 ^ min (ji11).toNat 64)) = ji13 := hji13
          have hji13z : (ji11) ≤ 64 → (IntKind.i64.wrap ((Go.bits .and .i64 (wrap64 (rd l0 (ji8))) 127) * 2 ^ (ji11).toNat)) = ji13 := shl_small hji13
          have hji13y : (wrap64 ((Go.bits .and .i64 (wrap64 (rd l0 (ji8))) 127) * 2 ^ min (ji11).toNat 64)) = ji13 := (i64_w _).symm.trans hji13_
          have hji13x : (ji11) ≤ 64 → (wrap64 ((Go.bits .and .i64 (wrap64 (rd l0 (ji8))) 127) * 2 ^ (ji11).toNat)) = ji13 := fun h_ => (i64_w _).symm.trans (hji13z h_)
          by_cases c14 : (wrap64 (rd l0 (ji8))) ≥ 128
          ·rw [if_pos c14] at H
           have c14b0 : decide (128 ≤ (wrap64 (rd l0 (ji8)))) = true := decide_eq_true c14
           clear c14
           have H' := aM H
           clear H
           have p267 : 0 ≤ ((ji8) : Int) := dT
           have q267 : (ji8) < (l0.length : Int) := dT
           obtain ⟨ad267, e267, hx267_0⟩ := Kd.at_int HR0.out (ji8) p267 q267
           cases e267
           replace p267 := eq_true p267
           replace q267 := eq_true q267
           go_wp2
           go_roundg kj4
           case measure => have := HK1.out; have := HJ4.out; omega
           case rel => exact ⟨(Go.bits .or .i64 x7_1 (ji13)), (wrap64 (x8_1 + 1)), (by first | rfl | (simp; done) | (simp only [← hji13] <;> (first | rfl | simp)) | (simp [*]; done)), (by first | rfl | (simp; done) | (simp [*]; done) | (simp; exact (by intro l_; cases l_ <;> rfl : ∀ l_ : List UInt8, l_.isEmpty = !(l_ != [])) _)), H', ⟨by have := HK1.out; have := HJ4.out; omega⟩, by repeat (first | exact Drawn0.refl _ | apply Drawn0.step)⟩
          ·rw [if_neg c14] at H
           have c14b0 : decide (128 ≤ (wrap64 (rd l0 (ji8)))) = false := decide_eq_false c14
           clear c14
           by_cases c15 : (wrap64 (rd l0 (ji8))) = 0
           ·rw [if_pos c15] at H
            have c15b0 : ((wrap64 (rd l0 (ji8))) == 0) = true := beq_iff_eq.mpr c15
            have c15b1 : ((wrap64 (rd l0 (ji8))) != 0) = false := bne_eq_false_iff_eq.mpr c15
            clear c15
            by_cases c16 : x8_1 > 0
            ·rw [if_pos c16] at H
             have c16b0 : decide (0 < x8_1) = true := decide_eq_true c16
             clear c16
             simp only [Option.some.injEq, Prod.mk.injEq] at H
             obtain ⟨rfl, rfl, rfl⟩ := H
             have p267 : 0 ≤ ((ji8) : Int) := dT
             have q267 : (ji8) < (l0.length : Int) := dT
             obtain ⟨ad267, e267, hx267_0⟩ := Kd.at_int HR0.out (ji8) p267 q267
             cases e267
             replace p267 := eq_true p267
             replace q267 := eq_true q267
             go_wp2
             go_ret3
             exact ⟨by first | rfl | (simp; done) | (simp only [← hji8, ← hji11, ← hji13] <;> (first | rfl | simp)) | (simp [*]; done), by repeat (first | exact Drawn0.refl _ | apply Drawn0.step)⟩
            ·rw [if_neg c16] at H
             have c16b0 : decide (0 < x8_1) = false := decide_eq_false c16
             clear c16
             by_cases c17 : (Go.bits .or .i64 x7_1 (ji13)) > 2147483647
             ·rw [if_pos c17] at H
              have c17b0 : decide (2147483647 < (Go.bits .or .i64 x7_1 (ji13))) = true := decide_eq_true c17
              clear c17
              simp only [Option.some.injEq, Prod.mk.injEq] at H
              obtain ⟨rfl, rfl, rfl⟩ := H
              have p267 : 0 ≤ ((ji8) : Int) := dT
              have q267 : (ji8) < (l0.length : Int) := dT
              obtain ⟨ad267, e267, hx267_0⟩ := Kd.at_int HR0.out (ji8) p267 q267
              cases e267
              replace p267 := eq_true p267
              replace q267 := eq_true q267
              go_wp2
              go_ret3
              exact ⟨by first | rfl | (simp; done) | (simp only [← hji8, ← hji11, ← hji13] <;> (first | rfl | simp)) | (simp [*]; done), by repeat (first | exact Drawn0.refl _ | apply Drawn0.step)⟩
             ·rw [if_neg c17] at H
              have c17b0 : decide (2147483647 < (Go.bits .or .i64 x7_1 (ji13))) = false := decide_eq_false c17
              clear c17
              simp only [Option.some.injEq, Prod.mk.injEq] at H
              obtain ⟨rfl, rfl, rfl⟩ := H
              have p267 : 0 ≤ ((ji8) : Int) := dT
              have q267 : (ji8) < (l0.length : Int) := dT
              obtain ⟨ad267, e267, hx267_0⟩ := Kd.at_int HR0.out (ji8) p267 q267
              cases e267
              replace p267 := eq_true p267
              replace q267 := eq_true q267
              go_wp2
              go_ret3
              exact ⟨by first | rfl | (simp; done) | (simp only [← hji8, ← hji11, ← hji13] <;> (first | rfl | simp)) | (simp [*]; done), by repeat (first | exact Drawn0.refl _ | apply Drawn0.step)⟩
           ·rw [if_neg c15] at H
            have c15b0 : ((wrap64 (rd l0 (ji8))) == 0) = false := beq_eq_false_iff_ne.mpr c15
            have c15b1 : ((wrap64 (rd l0 (ji8))) != 0) = true := bne_iff_ne.mpr c15
            by_cases c18 : (Go.bits .or .i64 x7_1 (ji13)) > 2147483647
            ·rw [if_pos c18] at H
             have c18b0 : decide (2147483647 < (Go.bits .or .i64 x7_1 (ji13))) = true := decide_eq_true c18
             clear c18
             simp only [Option.some.injEq, Prod.mk.injEq] at H
             obtain ⟨rfl, rfl, rfl⟩ := H
             have p267 : 0 ≤ ((ji8) : Int) := dT
             have q267 : (ji8) < (l0.length : Int) := dT
             obtain ⟨ad267, e267, hx267_0⟩ := Kd.at_int HR0.out (ji8) p267 q267
             cases e267
             replace p267 := eq_true p267
             replace q267 := eq_true q267
             go_wp2
             go_ret3
             exact ⟨by first | rfl | (simp; done) | (simp only [← hji8, ← hji11, ← hji13] <;> (first | rfl | simp)) | (simp [*]; done), by repeat (first | exact Drawn0.refl _ | apply Drawn0.step)⟩
            ·rw [if_neg c18] at H
             have c18b0 : decide (2147483647 < (Go.bits .or .i64 x7_1 (ji13))) = false := decide_eq_false c18
             clear c18
             simp only [Option.some.injEq, Prod.mk.injEq] at H
             obtain ⟨rfl, rfl, rfl⟩ := H
             have p267 : 0 ≤ ((ji8) : Int) := dT
             have q267 : (ji8) < (l0.length : Int) := dT
             obtain ⟨ad267, e267, hx267_0⟩ := Kd.at_int HR0.out (ji8) p267 q267
             cases e267
             replace p267 := eq_true p267
             replace q267 := eq_true q267
             go_wp2
             go_ret3
             exact ⟨by first | rfl | (simp; done) | (simp only [← hji8, ← hji11, ← hji13] <;> (first | rfl | simp)) | (simp [*]; done), by repeat (first | exact Drawn0.refl _ | apply Drawn0.step)⟩
         ·rw [if_neg c12] at H
          exact absurd H (by simp)
        ·rw [if_neg c10] at H
         exact absurd H (by simp)
       ·rw [if_neg c9] at H
        exact absurd H (by simp)
      ·replace c7 := Bool.eq_false_iff.mpr c7
       subst c7
       rw [if_neg (show ¬ (false = true) by decide)] at H
       simp only [Option.some.injEq, Prod.mk.injEq] at H
       obtain ⟨rfl, rfl, rfl⟩ := H
       go_wp2
       go_ret3
       exact ⟨by first | rfl | (simp; done) | (simp [*]; done), by repeat (first | exact Drawn0.refl _ | apply Drawn0.step)⟩
 replace c4 := Bool.eq_false_iff.mpr c4
 subst c4
 rw [if_neg (show ¬ (false = true) by decide)] at H
 simp only [Option.some.injEq, Prod.mk.injEq] at H
 obtain ⟨rfl, rfl, rfl⟩ := H
 go_enter Try.func116, Try.ntmps116
 go_wp2_with (first | ((with_reducible refine gate_callee (f := 67) rfl ?_); refine gL (some 13) Try.func67 #[.int .i64 a1, .int .i64 0, .int .i64 (l0.length : Int)] ?_; (with_reducible refine (impl_within.calls a1 0 (l0.length : Int) false _ A3.out).mono ?_); rintro e w' ⟨rfl, ⟨nd, rfl⟩⟩; refine ⟨_, rfl, ?_⟩))
 go_ret3
 exact ⟨by first | rfl | (simp; done) | (simp [*]; done), by repeat (first | exact Drawn0.refl _ | apply Drawn0.step)⟩

/-! ### impl_HeadOf: function 86 -/
mutual
def impl_HeadOf.j0 : Nat → Int → List Int → Bool → Option (List Int × Int × Bool)
 | 0, _, _, _ => none
 | k + 1, x1, x7, x29 => if x29 = true then (some (([] : List Int), 0, false)) else ((impl_GetNum.f k x7 1).bind fun bt272 => (if bt272.2.2 = true then (impl_HeadOf.j1 k x1 x7 bt272.1 bt272.2.1 (decide (bt272.1 > 48))) else (impl_HeadOf.j1 k x1 x7 bt272.1 bt272.2.1 true)))
def impl_HeadOf.j1 : Nat → Int → List Int → Int → Int → Bool → Option (List Int × Int × Bool)
 | 0, _, _, _, _, _ => none
 | k + 1, x1, x7, x8, x9, x41 => if x41 = true then (some (([] : List Int), 0, false)) else (impl_HeadOf.l0 k x1 x7 x9 (([] : List (S65))) (([] : List Int)) x8 0)
def impl_HeadOf.l0 : Nat → Int → List Int → Int → List (S65) → List Int → Int → Int → Option (List Int × Int × Bool)
 | 0, _, _, _, _, _, _, _ => none
 | k + 1, x1, x7, x9, x11, x12, x44, x45 => if x45 < x44 then ((impl_GetNum.f k x7 x9).bind fun bt281 => (if bt281.2.2 = true then (if x11.length < 5864062014805 then (if x12.length < 17592186044416 then (impl_HeadOf.l0 k x1 x7 bt281.2.1 (x11 ++ [(⟨bt281.1, (⟨#[]⟩ : ByteArray)⟩ : S65)]) (x12 ++ [bt281.1]) x44 (wrap64 (x45 + 1))) else (none)) else (none)) else (some (([] : List Int), 0, false)))) else (if (x7.length : Int) = (wrap64 (x9 + 4)) then ((impl_TxOk.f k x1 x11).bind fun t290 => (impl_HeadOf.j3 k x7 x9 x12 (!t290))) else (impl_HeadOf.j3 k x7 x9 x12 true))
def impl_HeadOf.j3 : Nat → List Int → Int → List Int → Bool → Option (List Int × Int × Bool)
 | 0, _, _, _, _ => none
 | k + 1, x7, x9, x12, x77 => if x77 = true then (some (([] : List Int), 0, false)) else (if 0 ≤ x9 then (if x9 ≤ (x7.length : Int) then ((some (x7.drop (x9 : Int).toNat : List Int)).bind fun y291 => (impl_HeadOf.l1 k x12 0 y291 (y291.length : Int) 0)) else (none)) else (none))
def impl_HeadOf.l1 : Nat → List Int → Int → List Int → Int → Int → Option (List Int × Int × Bool)
 | 0, _, _, _, _, _ => none
 | k + 1, x12, x16, x80, x81, x82 => if x82 < x81 then (if 0 ≤ x82 then (if x82 < (x80.length : Int) then (impl_HeadOf.l1 k x12 (Go.bits .or .i64 (wrap64 (x16 * 256)) (wrap64 (rd x80 x82))) x80 x81 (wrap64 (x82 + 1))) else (none)) else (none)) else (some (x12, x16, true))
end
def impl_HeadOf.f (k : Nat) (a0 : ByteArray) (a1 : Int) : Option (List Int × Int × Bool) := if a0.size ≤ 9223372036854775807 then ((some (bytesOf a0 : List Int)).bind fun y268 => (if (y268.length : Int) < 5 then (impl_HeadOf.j0 k a1 y268 true) else (if 0 < (y268.length : Int) then (impl_HeadOf.j0 k a1 y268 ((rd y268 0) != 74)) else (none)))) else (none)
theorem impl_HeadOf.mono_l : ∀ k, (∀ y0 y1 y2, LeO (impl_HeadOf.j0 k y0 y1 y2) (impl_HeadOf.j0 (k + 1) y0 y1 y2)) ∧ (∀ y0 y1 y2 y3 y4, LeO (impl_HeadOf.j1 k y0 y1 y2 y3 y4) (impl_HeadOf.j1 (k + 1) y0 y1 y2 y3 y4)) ∧ (∀ y0 y1 y2 y3 y4 y5 y6, LeO (impl_HeadOf.l0 k y0 y1 y2 y3 y4 y5 y6) (impl_HeadOf.l0 (k + 1) y0 y1 y2 y3 y4 y5 y6)) ∧ (∀ y0 y1 y2 y3, LeO (impl_HeadOf.j3 k y0 y1 y2 y3) (impl_HeadOf.j3 (k + 1) y0 y1 y2 y3)) ∧ (∀ y0 y1 y2 y3 y4, LeO (impl_HeadOf.l1 k y0 y1 y2 y3 y4) (impl_HeadOf.l1 (k + 1) y0 y1 y2 y3 y4))
 | 0 => ⟨fun _ _ _ r h => by simp [impl_HeadOf.j0] at h, fun _ _ _ _ _ r h => by simp [impl_HeadOf.j1] at h, fun _ _ _ _ _ _ _ r h => by simp [impl_HeadOf.l0] at h, fun _ _ _ _ r h => by simp [impl_HeadOf.j3] at h, fun _ _ _ _ _ r h => by simp [impl_HeadOf.l1] at h⟩
 | k + 1 => by
  obtain ⟨ih0, ih1, ih2, ih3, ih4⟩ := impl_HeadOf.mono_l k
  refine ⟨?_, ?_, ?_, ?_, ?_⟩
  ·intro y0 y1 y2
   unfold impl_HeadOf.j0
   have m0_ := @impl_GetNum.mono
   have m1_ := @impl_TxOk.mono
   exact mM
  ·intro y0 y1 y2 y3 y4
   unfold impl_HeadOf.j1
   have m0_ := @impl_GetNum.mono
   have m1_ := @impl_TxOk.mono
   exact mM
  ·intro y0 y1 y2 y3 y4 y5 y6
   unfold impl_HeadOf.l0
   have m0_ := @impl_GetNum.mono
   have m1_ := @impl_TxOk.mono
   exact mM
  ·intro y0 y1 y2 y3
   unfold impl_HeadOf.j3
   have m0_ := @impl_GetNum.mono
   have m1_ := @impl_TxOk.mono
   exact mM
  ·intro y0 y1 y2 y3 y4
   unfold impl_HeadOf.l1
   have m0_ := @impl_GetNum.mono
   have m1_ := @impl_TxOk.mono
   exact mM
theorem impl_HeadOf.mono : ∀ a0 a1 k, LeO (impl_HeadOf.f k a0 a1) (impl_HeadOf.f (k + 1) a0 a1) := by
 intro a0 a1 k
 obtain ⟨ih0, ih1, ih2, ih3, ih4⟩ := impl_HeadOf.mono_l k
 unfold impl_HeadOf.f
 have m0_ := @impl_GetNum.mono
 have m1_ := @impl_TxOk.mono
 exact mM
set_option maxHeartbeats 8000000 in
set_option maxRecDepth 100000 in
theorem impl_HeadOf.calls (k : Nat) (a0 : ByteArray) (a1 : Int) (r1 : List Int) (r2 : Int) (r3 : Bool) (w : World) (h : impl_HeadOf.f k a0 a1 = some (r1, r2, r3)) :
  Calls Try.prog 86 #[.string a0, .int .i64 a1] w fun e w' => ∃ v0_ : Value, e = .returned (.tuple #[v0_, .int .i64 r2, .bool r3]) ∧ Kd.R (Kd.int .i64) 3 w' w.heap.size (fun _ => True) v0_ r1 ∧ Below w.heap.size w w' := by
 have hu65 := Try.underlying65
 have HB := aM (Below.refl w.heap.size w)
 unfold impl_HeadOf.f at h
 have H := h
 clear h
 by_cases c3 : a0.size ≤ 9223372036854775807
 ·rw [if_pos c3] at H
  have c3b0 := eq_true c3
  have c3b1 : decide (a0.size ≤ 9223372036854775807) = true := decide_eq_true c3
  try have c3b2 : (9223372036854775807 < a0.size) = False := eq_false (Nat.not_lt.2 c3)
  clear c3
  obtain ⟨y268, hy268⟩ : ∃ y_ : List Int, y_ = (bytesOf a0) := ⟨_, rfl⟩
  replace H : (if (y268.length : Int) < 5 then (impl_HeadOf.j0 k a1 y268 true) else (if 0 < (y268.length : Int) then (impl_HeadOf.j0 k a1 y268 ((rd y268 0) != 74)) else (none))) = some (r1, r2, r3) := bQ hy268 H
  have Ny268 := aM hy268
  clear hy268
  have HC4 := aM H
  clear H
  go_enter Try.func86, Try.ntmps86
  go_upto_region 2 with (first | ((with_reducible refine gate_dst (N := 20) rfl ?_); refine V_bytes 5 rfl (N' := 20) rfl 9 60 _ rfl a0 rfl Try.underlying9 Try.underlying60 Try.underlying5 (by first | (with_reducible assumption) | assumption | exact dT) ?_; intro v269 w5 ho6 hb hg_ hnew_; clear hg_ hnew_; (first | rw [← Ny268.out] at ho6 | (simp only [Int.reduceToNat] at ho6; rw [← Ny268.out] at ho6)); have n_ := aI (aM (Kd.V_lower (Kd.V_mono (ok' := fun k_ => True) ho6 (fun k_ hk_ => trivial)) (zB HB))) (sB HB hb); clear HB; obtain ⟨HO270, HB⟩ := n_; (try clear hb ho6)))
  (try simp only [Act.put, List.setIfInBounds_toArray, List.set_cons_zero, List.set_cons_succ])
  go_cut [29] (fun v29 wc => ∃ (kq : Nat) (x29_3 : Bool), v29 = .bool x29_3 ∧ Aside0 (impl_HeadOf.j0 kq a1 y268 x29_3 = some (r1, r2, r3)) ∧ Aside0 (kq ≤ k) ∧ Aside0 (Kd.V (Kd.int .u8) 5 wc w.heap.size (fun _ => True) v269 y268) ∧ Aside0 (Below w.heap.size w wc))
  case first =>
   have H := HC4.out
   clear HC4
   by_cases c7 : (y268.length : Int) < 5
   ·rw [if_pos c7] at H
    have c7b0 : decide ((y268.length : Int) < 5) = true := decide_eq_true c7
    have c7b1 : decide (y268.length < 5) = true := decide_eq_true (by omega)
    clear c7
    (first | rw [c7b0] | (simp only [i64_w, i32_w]; rw [c7b0]) | rw [c7b1] | rw [c7b2] | skip)
    have H' := aM H
    clear H
    obtain ⟨Ao8, co8, eo8⟩ := Kd.V_slice HO270.out
    subst eo8
    go_wp2
    go_meet
    case rel => exact ⟨_, (true), (by first | rfl | (simp; done) | (simp [*]; done) | (simp; exact (by intro l_; cases l_ <;> rfl : ∀ l_ : List UInt8, l_.isEmpty = !(l_ != [])) _)), H', ⟨by first | omega | exact Nat.le_refl _⟩, ⟨by (with_reducible repeat (first | apply Kd.V_alloc | apply Kd.V_drewN | apply Kd.V_drew)); exact HO270.out⟩, ⟨bB⟩⟩
   rw [if_neg c7] at H
   have c7b0 : decide ((y268.length : Int) < 5) = false := decide_eq_false c7
   have c7b1 : decide (y268.length < 5) = false := decide_eq_false (by omega)
   clear c7
   (first | rw [c7b0] | (simp only [i64_w, i32_w]; rw [c7b0]) | rw [c7b1] | rw [c7b2] | skip)
   by_cases c9 : 0 < (y268.length : Int)
   ·rw [if_pos c9] at H
    have c9b0 : decide (0 < (y268.length : Int)) = true := decide_eq_true c9
    have c9b1 : decide (0 < y268.length) = true := decide_eq_true (by omega)
    clear c9
    have H' := aM H
    clear H
    obtain ⟨Ao10, co10, eo10⟩ := Kd.V_slice HO270.out
    subst eo10
    have p271 : 0 ≤ (0 : Int) := (by omega)
    have q271 : 0 < (y268.length : Int) := dT
    obtain ⟨ad271, e271, hx271_0⟩ := Kd.at_int (Kd.V_reads' HO270.out).2.2 0 p271 q271
    cases e271
    have qi271 : (0 < y268.length) = True := eq_true (by omega)
    (try rw [show ((0 : Int)).toNat = 0 from rfl] at hx271_0)
    (try rw [Addr.add_zero'] at hx271_0)
    replace p271 := eq_true p271
    replace q271 := eq_true q271
    go_wp2
    go_meet
    case rel => exact ⟨_, (((rd y268 0) != 74)), (by first | rfl | (simp; done) | (simp [*]; done) | (simp; exact (by intro l_; cases l_ <;> rfl : ∀ l_ : List UInt8, l_.isEmpty = !(l_ != [])) _)), H', ⟨by first | omega | exact Nat.le_refl _⟩, ⟨by (with_reducible repeat (first | apply Kd.V_alloc | apply Kd.V_drewN | apply Kd.V_drew)); exact HO270.out⟩, ⟨bB⟩⟩
   rw [if_neg c9] at H
   exact absurd H (by simp)
  case rest =>
   clear HC4
   try clear p2
   try clear q2
   try clear hx2
   try clear qi2
   try clear c3
   try clear c3b0
   try clear c3b1
   try clear c3b2
   try clear c7
   try clear c7b0
   try clear c7b1
   try clear c7b2
   try clear c8
   try clear c9
   try clear c9b0
   try clear c9b1
   try clear hx271_0
   try clear p271
   try clear q271
   obtain ⟨kq, x29_3, rfl, HA, HJ3, HO_7, HB⟩ := hcut
   cases kq with
   | zero => exact absurd HA.out (by simp [impl_HeadOf.j0])
   | succ kj3 =>
    have H := HA.out
    clear HA
    simp only [impl_HeadOf.j0] at H
    by_cases c11 : x29_3 = true
    ·subst c11
     rw [if_pos rfl] at H
     simp only [Option.some.injEq, Prod.mk.injEq] at H
     obtain ⟨rfl, rfl, rfl⟩ := H
     go_wp2
     go_ret3
     exact ⟨_, eW, by first | exact Kd.R_nil _ _ _ _ _ | exact Kd.N_nil _ _ _ _ _ | exact Kd.V_nil _ _ _ _ _ | exact Kd.Q_nil _ _ _ _ _ | exact Kd.S_nil _ _ _ _ _, bB⟩
    ·replace c11 := Bool.eq_false_iff.mpr c11
     subst c11
     rw [if_neg (show ¬ (false = true) by decide)] at H
     replace H := Option.bind_eq_some_iff.mp H
     obtain ⟨⟨t272, t273, t274⟩, A120, H⟩ := H
     try dsimp only at H
     have A12 := aM A120
     clear A120
     have HC13 := aM H
     clear H
     obtain ⟨Ao14, co14, eo14⟩ := Kd.V_slice HO_7.out
     subst eo14
     go_upto_region 5 with (first | ((with_reducible refine gate_callee (f := 116) rfl ?_); refine gL (some 32) Try.func116 #[.slice Ao14 y268.length co14, .int .i64 1] ?_; (with_reducible refine (impl_GetNum.calls kj3 _ _ y268 1 t272 t273 t274 _ ?side1 ?side2 A12.out).mono ?_); (case side1 => repeat (first | exact (Kd.V_reads' HO_7.out).2.2 | (with_reducible refine Kd.C_alloc ?_ _) | (with_reducible refine Kd.C_drewN ?_ _) | (with_reducible refine Kd.C_drew ?_))); (case side2 => exact (Kd.V_reads' HO_7.out).2.1); rintro e w' ⟨rfl, ⟨nd, rfl⟩⟩; refine ⟨_, rfl, ?_⟩))
     (try simp only [Act.put, List.setIfInBounds_toArray, List.set_cons_zero, List.set_cons_succ])
     go_cut [41] (fun v41 wc => ∃ (kq : Nat) (x41_12 : Bool), v41 = .bool x41_12 ∧ Aside0 (impl_HeadOf.j1 kq a1 y268 t272 t273 x41_12 = some (r1, r2, r3)) ∧ Aside0 (kq ≤ kj3) ∧ Aside0 (Kd.V (Kd.int .u8) 5 wc w.heap.size (fun _ => True) (.slice Ao14 y268.length co14) y268) ∧ Aside0 (Below w.heap.size w wc))
     case first =>
      have H := HC13.out
      clear HC13
      by_cases c15 : t274 = true
      ·subst c15
       rw [if_pos rfl] at H
       have H' := aM H
       clear H
       go_wp2
       go_meet
       case rel => exact ⟨_, (decide (t272 > 48)), (by first | rfl | (simp; done) | (simp [*]; done) | (simp; exact (by intro l_; cases l_ <;> rfl : ∀ l_ : List UInt8, l_.isEmpty = !(l_ != [])) _)), H', ⟨by have := HJ3.out; first | omega | exact Nat.le_refl _⟩, ⟨by (with_reducible repeat (first | apply Kd.V_alloc | apply Kd.V_drewN | apply Kd.V_drew)); exact HO_7.out⟩, ⟨bB⟩⟩
      ·replace c15 := Bool.eq_false_iff.mpr c15
       subst c15
       rw [if_neg (show ¬ (false = true) by decide)] at H
       have H' := aM H
       clear H
       go_wp2
       go_meet
       case rel => exact ⟨_, (true), (by first | rfl | (simp; done) | (simp [*]; done) | (simp; exact (by intro l_; cases l_ <;> rfl : ∀ l_ : List UInt8, l_.isEmpty = !(l_ != [])) _)), H', ⟨by have := HJ3.out; first | omega | exact Nat.le_refl _⟩, ⟨by (with_reducible repeat (first | apply Kd.V_alloc | apply Kd.V_drewN | apply Kd.V_drew)); exact HO_7.out⟩, ⟨bB⟩⟩
     case rest =>
      clear HC13
      try clear c1
      try clear p2
      try clear q2
      try clear hx2
      try clear qi2
      try clear c3
      try clear c3b0
      try clear c3b1
      try clear c3b2
      try clear c7
      try clear c7b0
      try clear c7b1
      try clear c7b2
      try clear c8
      try clear c9
      try clear c9b0
      try clear c9b1
      try clear c11
      try clear c15
      try clear hx271_0
      try clear p2
      try clear p271
      try clear q2
      try clear q271
      obtain ⟨kq, x41_12, rfl, HA, HJ12, HO_7, HB⟩ := hcut
      cases kq with
      | zero => exact absurd HA.out (by simp [impl_HeadOf.j1])
      | succ kj12 =>
       have H := HA.out
       clear HA
       simp only [impl_HeadOf.j1] at H
       by_cases c16 : x41_12 = true
       ·subst c16
        rw [if_pos rfl] at H
        simp only [Option.some.injEq, Prod.mk.injEq] at H
        obtain ⟨rfl, rfl, rfl⟩ := H
        go_wp2
        go_ret3
        exact ⟨_, eW, by first | exact Kd.R_nil _ _ _ _ _ | exact Kd.N_nil _ _ _ _ _ | exact Kd.V_nil _ _ _ _ _ | exact Kd.Q_nil _ _ _ _ _ | exact Kd.S_nil _ _ _ _ _, bB⟩
       ·replace c16 := Bool.eq_false_iff.mpr c16
        subst c16
        rw [if_neg (show ¬ (false = true) by decide)] at H
        obtain ⟨y275, hy275⟩ : ∃ y_ : List (S65), y_ = (([] : List (S65))) := ⟨_, rfl⟩
        replace H : (impl_HeadOf.l0 kj12 a1 y268 t273 y275 (([] : List Int)) t272 0) = some (r1, r2, r3) := bQ hy275 H
        have Ny275 := aM hy275
        clear hy275
        obtain ⟨y278, hy278⟩ : ∃ y_ : List Int, y_ = (([] : List Int)) := ⟨_, rfl⟩
        replace H : (impl_HeadOf.l0 kj12 a1 y268 t273 y275 y278 t272 0) = some (r1, r2, r3) := bQ hy278 H
        have Ny278 := aM hy278
        clear hy278
        have H' := aM H
        clear H
        go_wp2_with (first | ((with_reducible refine gate_dst (N := 42) rfl ?_); refine Kd.R_lit k65 _ 65 ?hg (N := 42) ?hd (xs := ([] : List (S65))) (inner := []) (ok := fun _ => True) (okp := fun _ => True) ?hr ?hp (fun _ hk => hk) trivial (Below.refl _ _) (Nat.le_refl _) (by simp) ?_; (case hd => rfl); (case hg => rfl); (case hr => first | (go_simp; done) | (go_simp; rfl)); (case hp => exact (Reps.none _ _)); intro v276 w17 ho18 hb hg_ hnew_; clear hg_ hnew_; (first | rw [← Ny275.out] at ho18 | (simp only [Int.reduceToNat] at ho18; rw [← Ny275.out] at ho18)); have n_ := aI (aM (Kd.V_elder' (by (with_reducible repeat (first | apply Kd.V_alloc | apply Kd.V_drewN | apply Kd.V_drew)); exact HO_7.out) (Kd.R_base ho18) hb)) (aI (lR HB ho18) (sB HB hb)); clear HO_7 HB; obtain ⟨HO_7, HO277, HB⟩ := n_; (try clear hb ho18)) | ((with_reducible refine gate_dst (N := 43) rfl ?_); refine Kd.R_lit (Kd.int .i64) _ 3 ?hg (N := 43) ?hd (xs := ([] : List Int)) (inner := []) (ok := fun _ => True) (okp := fun _ => True) ?hr ?hp (fun _ hk => hk) trivial (Below.refl _ _) (Nat.le_refl _) (by simp) ?_; (case hd => rfl); (case hg => rfl); (case hr => first | (go_simp; done) | (go_simp; rfl)); (case hp => exact (Reps.none _ _)); intro v279 w19 ho20 hb hg_ hnew_; clear hg_ hnew_; (first | rw [← Ny278.out] at ho20 | (simp only [Int.reduceToNat] at ho20; rw [← Ny278.out] at ho20)); have n_ := aI (aM (Kd.V_elder' (by (with_reducible repeat (first | apply Kd.V_alloc | apply Kd.V_drewN | apply Kd.V_drew)); exact HO_7.out) (Kd.R_base ho20) hb)) (aI (rB HO277 hb) (aI (lR HB ho20) (sB HB hb))); clear HO_7 HO277 HB; obtain ⟨HO_7, HO277, HO280, HB⟩ := n_; (try clear hb ho20)))
        go_loopg [9, 11, 12, 45] kj12 (fun kq v9 v11 v12 v45 w' => ∃ (x9_3 : Int) (x11_3 : List (S65)) (x12_3 : List Int) (x45_3 : Int), v9 = .int .i64 x9_3 ∧ v45 = .int .i64 x45_3 ∧ Aside0 (impl_HeadOf.l0 kq a1 y268 x9_3 x11_3 x12_3 t272 x45_3 = some (r1, r2, r3)) ∧ Aside0 (kq ≤ kj12) ∧ Aside0 (Kd.V (Kd.int .u8) 5 w' w.heap.size (fun k_ => some k_ ≠ (v11 : Value).ownBlock ∧ some k_ ≠ (v12 : Value).ownBlock) (.slice Ao14 y268.length co14) y268) ∧ Aside0 (Kd.R k65 65 w' w.heap.size (fun _ => True) v11 x11_3) ∧ Aside0 (Kd.R (Kd.int .i64) 3 w' w.heap.size (fun _ => True) v12 x12_3) ∧ Aside0 (Below w.heap.size w w'))
        case atStart => exact ⟨(t273), (y275), (y278), (0), (by first | rfl | (simp; done) | (simp [*]; done) | (simp; exact (by intro l_; cases l_ <;> rfl : ∀ l_ : List UInt8, l_.isEmpty = !(l_ != [])) _)), (by first | rfl | (simp; done) | (simp [*]; done) | (simp; exact (by intro l_; cases l_ <;> rfl : ∀ l_ : List UInt8, l_.isEmpty = !(l_ != [])) _)), H', ⟨Nat.le_refl _⟩, ⟨by (with_reducible repeat (first | apply Kd.V_alloc | apply Kd.V_drewN | apply Kd.V_drew)); exact Kd.V_mono HO_7.out (fun _ hk => ⟨hk.1.2, hk.2⟩)⟩, ⟨rP HO277.out⟩, ⟨rP HO280.out⟩, ⟨bB⟩⟩
        case round =>
         clear H'
         try clear c1
         try clear p2
         try clear q2
         try clear hx2
         try clear qi2
         try clear c3
         try clear c3b0
         try clear c3b1
         try clear c3b2
         try clear c7
         try clear c7b0
         try clear c7b1
         try clear c7b2
         try clear c8
         try clear c9
         try clear c9b0
         try clear c9b1
         try clear c11
         try clear c15
         try clear c16
         try clear hx271_0
         try clear p2
         try clear p271
         try clear q2
         try clear q271
         obtain ⟨x9_3, x11_3, x12_3, x45_3, rfl, rfl, HA, HK3, HO_7, HO_11, HO_12, HB⟩ := hrel
         cases gk with
         | zero => exact absurd HA.out (by simp [impl_HeadOf.l0])
         | succ k3 =>
          have H := HA.out
          clear HA
          simp only [impl_HeadOf.l0] at H
          by_cases c21 : x45_3 < t272
          ·rw [if_pos c21] at H
           have c21b0 : decide (x45_3 < t272) = true := decide_eq_true c21
           clear c21
           replace H := Option.bind_eq_some_iff.mp H
           obtain ⟨⟨t281, t282, t283⟩, A220, H⟩ := H
           try dsimp only at H
           have A22 := aM A220
           clear A220
           by_cases c23 : t283 = true
           ·subst c23
            rw [if_pos rfl] at H
            by_cases c24 : x11_3.length < 5864062014805
            ·rw [if_pos c24] at H
             have LMc24 := aM c24
             clear c24
             obtain ⟨y284, hy284⟩ : ∃ y_ : List (S65), y_ = (x11_3 ++ [(⟨t281, (⟨#[]⟩ : ByteArray)⟩ : S65)]) := ⟨_, rfl⟩
             replace H : (if x12_3.length < 17592186044416 then (impl_HeadOf.l0 k3 a1 y268 t282 y284 (x12_3 ++ [t281]) t272 (wrap64 (x45_3 + 1))) else (none)) = some (r1, r2, r3) := bQ hy284 H
             have Ny284 := aM hy284
             clear hy284
             by_cases c25 : x12_3.length < 17592186044416
             ·rw [if_pos c25] at H
              have LMc25 := aM c25
              clear c25
              obtain ⟨y287, hy287⟩ : ∃ y_ : List Int, y_ = (x12_3 ++ [t281]) := ⟨_, rfl⟩
              replace H : (impl_HeadOf.l0 k3 a1 y268 t282 y284 y287 t272 (wrap64 (x45_3 + 1))) = some (r1, r2, r3) := bQ hy287 H
              have Ny287 := aM hy287
              clear hy287
              have H' := aM H
              clear H
              go_wp2_with (first | ((with_reducible refine gate_callee (f := 116) rfl ?_); refine gL (some 50) Try.func116 #[.slice Ao14 y268.length co14, .int .i64 x9_3] ?_; (with_reducible refine (impl_GetNum.calls k3 _ _ y268 x9_3 t281 t282 true _ ?side1 ?side2 A22.out).mono ?_); (case side1 => repeat (first | exact (Kd.V_reads' HO_7.out).2.2 | (with_reducible refine Kd.C_alloc ?_ _) | (with_reducible refine Kd.C_drewN ?_ _) | (with_reducible refine Kd.C_drew ?_))); (case side2 => exact (Kd.V_reads' HO_7.out).2.1); rintro e w' ⟨rfl, ⟨nd, rfl⟩⟩; refine ⟨_, rfl, ?_⟩) | ((with_reducible refine gate_builtin (b := .append) (xs := #[.tmp 56, .tmp 59]) rfl ?_); at_builtin; refine Kd.R_append k65 (w0 := w) w.heap.size rfl (.tmp 56) (.tmp 59) 28 65 (.agg #[(.int .i64 0), (.string ⟨#[]⟩)]) 24 rfl Try.underlying28 info65 rfl (by decide) (by omega) u11 x11_3 (⟨t281, (⟨#[]⟩ : ByteArray)⟩ : S65) [.int .i64 t281, .string (⟨#[]⟩ : ByteArray)] (fun _ => True) (fun _ => False) rfl rfl ?aP (fun _ hk => hk.elim) ?aF ?aO ?aB ?aS ?aL ?_; (case aP => exact k65_mkM _ _ _ (⟨t281, (⟨#[]⟩ : ByteArray)⟩ : S65)); (case aB => exact bB); (case aF => exact (fun _ _ => trivial)); (case aO => exact (rP HO_11.out)); (case aS => exact (zB HB)); (case aL => have := LMc24.out; omega); intro v285 w26 ho hb hg hat; rw [← Ny284.out] at ho; have n_ := aI (aM (Kd.V_afterv (ok := (fun k_ => some k_ ≠ (u12 : Value).ownBlock)) (by (with_reducible repeat (first | apply Kd.V_alloc | apply Kd.V_drewN | apply Kd.V_drew)); exact Kd.V_mono HO_7.out (fun _ hk => ⟨hk.2, hk.1⟩)) hg hat)) (aI (aM (Kd.R_over' (rP HO_12.out) (Kd.R_typed (rP HO_11.out)) (by decide) hg)) (aI (aM (hb)) (aM (ho)))); clear HO_7 HO_12 HB HO_11; obtain ⟨HO_7, HO_12, HB, HO286⟩ := n_; (try clear ho hb hg hat)) | ((with_reducible refine gate_builtin (b := .append) (xs := #[.tmp 61, .tmp 63]) rfl ?_); at_builtin; refine Kd.R_append (Kd.int .i64) (w0 := w) w.heap.size rfl (.tmp 61) (.tmp 63) 95 3 (.int .i64 0) 8 rfl Try.underlying95 info3 rfl (by decide) (by omega) u12 x12_3 t281 [.int .i64 t281] (fun _ => True) (fun _ => False) rfl rfl ?aP (fun _ hk => hk.elim) ?aF ?aO ?aB ?aS ?aL ?_; (case aP => exact rfl); (case aB => exact bB); (case aF => exact (fun _ _ => trivial)); (case aO => exact (rP HO_12.out)); (case aS => exact (zB HB)); (case aL => have := LMc25.out; omega); intro v288 w27 ho hb hg hat; rw [← Ny287.out] at ho; have n_ := aI (aM (Kd.V_afterv (ok := (fun k_ => some k_ ≠ (v285 : Value).ownBlock)) (by (with_reducible repeat (first | apply Kd.V_alloc | apply Kd.V_drewN | apply Kd.V_drew)); exact Kd.V_mono HO_7.out (fun _ hk => ⟨hk.2, hk.1⟩)) hg hat)) (aI (aM (Kd.R_over' (rP HO286.out) (Kd.R_typed (rP HO_12.out)) (by decide) hg)) (aI (aM (hb)) (aM (ho)))); clear HO_7 HO286 HB HO_12; obtain ⟨HO_7, HO286, HB, HO289⟩ := n_; (try clear ho hb hg hat)))
              go_roundg k3
              case measure => have := HJ3.out; have := HJ12.out; have := HK3.out; omega
              case rel => exact ⟨(t282), (y284), (y287), (wrap64 (x45_3 + 1)), (by first | rfl | (simp; done) | (simp [*]; done) | (simp; exact (by intro l_; cases l_ <;> rfl : ∀ l_ : List UInt8, l_.isEmpty = !(l_ != [])) _)), (by first | rfl | (simp; done) | (simp [*]; done) | (simp; exact (by intro l_; cases l_ <;> rfl : ∀ l_ : List UInt8, l_.isEmpty = !(l_ != [])) _)), H', ⟨by have := HJ3.out; have := HJ12.out; have := HK3.out; omega⟩, ⟨by (with_reducible repeat (first | apply Kd.V_alloc | apply Kd.V_drewN | apply Kd.V_drew)); exact HO_7.out⟩, ⟨rP HO286.out⟩, ⟨rP HO289.out⟩, ⟨bB⟩⟩
             ·rw [if_neg c25] at H
              exact absurd H (by simp)
            ·rw [if_neg c24] at H
             exact absurd H (by simp)
           ·replace c23 := Bool.eq_false_iff.mpr c23
            subst c23
            rw [if_neg (show ¬ (false = true) by decide)] at H
            simp only [Option.some.injEq, Prod.mk.injEq] at H
            obtain ⟨rfl, rfl, rfl⟩ := H
            go_wp2_with (first | ((with_reducible refine gate_callee (f := 116) rfl ?_); refine gL (some 50) Try.func116 #[.slice Ao14 y268.length co14, .int .i64 x9_3] ?_; (with_reducible refine (impl_GetNum.calls k3 _ _ y268 x9_3 t281 t282 false _ ?side1 ?side2 A22.out).mono ?_); (case side1 => repeat (first | exact (Kd.V_reads' HO_7.out).2.2 | (with_reducible refine Kd.C_alloc ?_ _) | (with_reducible refine Kd.C_drewN ?_ _) | (with_reducible refine Kd.C_drew ?_))); (case side2 => exact (Kd.V_reads' HO_7.out).2.1); rintro e w' ⟨rfl, ⟨nd, rfl⟩⟩; refine ⟨_, rfl, ?_⟩))
            go_ret3
            exact ⟨_, eW, by first | exact Kd.R_nil _ _ _ _ _ | exact Kd.N_nil _ _ _ _ _ | exact Kd.V_nil _ _ _ _ _ | exact Kd.Q_nil _ _ _ _ _ | exact Kd.S_nil _ _ _ _ _, bB⟩
          ·rw [if_neg c21] at H
           have c21b0 : decide (x45_3 < t272) = false := decide_eq_false c21
           clear c21
           have HC28 := aM H
           clear H
           go_upto_region 18 with (fail)
           go_cut [77] (fun v77 wc => ∃ (kq : Nat) (x77_27 : Bool), v77 = .bool x77_27 ∧ Aside0 (impl_HeadOf.j3 kq y268 x9_3 x12_3 x77_27 = some (r1, r2, r3)) ∧ Aside0 (kq ≤ k3) ∧ Aside0 (Kd.V (Kd.int .u8) 5 wc w.heap.size (fun k_ => some k_ ≠ (u12 : Value).ownBlock) (.slice Ao14 y268.length co14) y268) ∧ Aside0 (Kd.R (Kd.int .i64) 3 wc w.heap.size (fun _ => True) u12 x12_3) ∧ Aside0 (Below w.heap.size w wc))
           case first =>
            have H := HC28.out
            clear HC28
            by_cases c29 : (y268.length : Int) = (wrap64 (x9_3 + 4))
            ·rw [if_pos c29] at H
             have c29b0 : ((y268.length : Int) == (wrap64 (x9_3 + 4))) = true := beq_iff_eq.mpr c29
             have c29b1 : ((y268.length : Int) != (wrap64 (x9_3 + 4))) = false := bne_eq_false_iff_eq.mpr c29
             clear c29
             (first | rw [c29b0] | (simp only [i64_w, i32_w]; rw [c29b0]) | rw [c29b1] | rw [c29b2] | skip)
             replace H := Option.bind_eq_some_iff.mp H
             obtain ⟨t290, A300, H⟩ := H
             try dsimp only at H
             have A30 := aM A300
             clear A300
             have H' := aM H
             clear H
             obtain ⟨Ao31, co31, eo31⟩ := Kd.R_slice HO_11.out
             subst eo31
             go_wp2_with (first | (go_at_call 100; (with_reducible refine (impl_TxOk.calls k3 a1 _ _ x11_3 t290 _ ?side1 ?side2 A30.out).mono ?_); (case side1 => exact cR HO_11); (case side2 => exact (Kd.R_reads' HO_11.out).2.1); rintro e w32 ⟨rfl, hb⟩; have n_ := aI (aM (Kd.V_below (by (with_reducible repeat (first | apply Kd.V_alloc | apply Kd.V_drewN | apply Kd.V_drew)); exact HO_7.out) hb)) (aI (rB HO_11 hb) (aI (rB HO_12 hb) (sB HB hb))); clear HO_7 HO_11 HO_12 HB; obtain ⟨HO_7, HO_11, HO_12, HB⟩ := n_; (try clear hb)))
             go_meet
             case rel => exact ⟨_, (!t290), (by first | rfl | (simp; done) | (simp [*]; done) | (simp; exact (by intro l_; cases l_ <;> rfl : ∀ l_ : List UInt8, l_.isEmpty = !(l_ != [])) _)), H', ⟨by have := HJ3.out; have := HJ12.out; have := HK3.out; first | omega | exact Nat.le_refl _⟩, ⟨by (with_reducible repeat (first | apply Kd.V_alloc | apply Kd.V_drewN | apply Kd.V_drew)); exact Kd.V_mono HO_7.out (fun _ hk => hk.2)⟩, ⟨rP HO_12.out⟩, ⟨bB⟩⟩
            ·rw [if_neg c29] at H
             have c29b0 : ((y268.length : Int) == (wrap64 (x9_3 + 4))) = false := beq_eq_false_iff_ne.mpr c29
             have c29b1 : ((y268.length : Int) != (wrap64 (x9_3 + 4))) = true := bne_iff_ne.mpr c29
             (first | rw [c29b0] | (simp only [i64_w, i32_w]; rw [c29b0]) | rw [c29b1] | rw [c29b2] | skip)
             have H' := aM H
             clear H
             go_wp2
             go_meet
             case rel => exact ⟨_, (true), (by first | rfl | (simp; done) | (simp [*]; done) | (simp; exact (by intro l_; cases l_ <;> rfl : ∀ l_ : List UInt8, l_.isEmpty = !(l_ != [])) _)), H', ⟨by have := HJ3.out; have := HJ12.out; have := HK3.out; first | omega | exact Nat.le_refl _⟩, ⟨by (with_reducible repeat (first | apply Kd.V_alloc | apply Kd.V_drewN | apply Kd.V_drew)); exact Kd.V_mono HO_7.out (fun _ hk => hk.2)⟩, ⟨rP HO_12.out⟩, ⟨bB⟩⟩
           case rest =>
            clear HC28
            try clear c1
            try clear c2
            try clear p2
            try clear q2
            try clear hx2
            try clear qi2
            try clear c3
            try clear c3b0
            try clear c3b1
            try clear c3b2
            try clear p6
            try clear c7
            try clear c7b0
            try clear c7b1
            try clear c7b2
            try clear c8
            try clear c9
            try clear c9b0
            try clear c9b1
            try clear c11
            try clear c15
            try clear c16
            try clear c21
            try clear c21b0
            try clear c23
            try clear c24
            try clear c25
            try clear p27
            try clear q27
            try clear hx27
            try clear qi27
            try clear c29
            try clear c29b0
            try clear c29b1
            try clear c29b2
            try clear hx271_0
            try clear p2
            try clear p271
            try clear q2
            try clear q271
            obtain ⟨kq, x77_27, rfl, HA, HJ27, HO_7, HO_12, HB⟩ := hcut
            cases kq with
            | zero => exact absurd HA.out (by simp [impl_HeadOf.j3])
            | succ kj27 =>
             have H := HA.out
             clear HA
             simp only [impl_HeadOf.j3] at H
             by_cases c33 : x77_27 = true
             ·subst c33
              rw [if_pos rfl] at H
              simp only [Option.some.injEq, Prod.mk.injEq] at H
              obtain ⟨rfl, rfl, rfl⟩ := H
              go_wp2
              go_ret3
              exact ⟨_, eW, by first | exact Kd.R_nil _ _ _ _ _ | exact Kd.N_nil _ _ _ _ _ | exact Kd.V_nil _ _ _ _ _ | exact Kd.Q_nil _ _ _ _ _ | exact Kd.S_nil _ _ _ _ _, bB⟩
             ·replace c33 := Bool.eq_false_iff.mpr c33
              subst c33
              rw [if_neg (show ¬ (false = true) by decide)] at H
              by_cases c34 : 0 ≤ x9_3
              ·rw [if_pos c34] at H
               have c34b0 := eq_true c34
               have c34b1 : decide (0 ≤ x9_3) = true := decide_eq_true c34
               clear c34
               by_cases c35 : x9_3 ≤ (y268.length : Int)
               ·rw [if_pos c35] at H
                have c35b0 := eq_true c35
                have c35b1 : decide (x9_3 ≤ (y268.length : Int)) = true := decide_eq_true c35
                clear c35
                obtain ⟨y291, hy291⟩ : ∃ y_ : List Int, y_ = (y268.drop (x9_3 : Int).toNat) := ⟨_, rfl⟩
                replace H : (impl_HeadOf.l1 kj27 x12_3 0 y291 (y291.length : Int) 0) = some (r1, r2, r3) := bQ hy291 H
                have Ny291 := aM hy291
                clear hy291
                have H' := aM H
                clear H
                have q36 : (x9_3 : Int) ≤ ((y268.length : Int) : Int) := dT
                obtain ⟨i036, hi036, _, hsz36, _⟩ := info_parts info5
                have hroom36 : y268.length ≤ co14 := (Kd.V_reads' HO_7.out).2.1
                have hC36 : Kd.F (Kd.int .u8) _ _ Ao14 y268.length y268 := (Kd.V_at (base := w.heap.size) HO_7.out).2.2
                have q036 : (0 : Int) ≤ (x9_3 : Int) := dT
                have hcut36 := cut_from (P := Try.prog) 60 5 .i64 Try.underlying60 hi036 1 hsz36 Ao14 y268.length co14 x9_3 q036 q36
                have hr36 := Kd.F_cut (m := (x9_3 : Int).toNat) (c := co14) hC36 (by omega) hroom36
                obtain ⟨A36, hA36⟩ : ∃ A1, A1 = (if co14 = (x9_3 : Int).toNat then Ao14 else (Ao14 : Option Addr).map (·.add ((x9_3 : Int).toNat * 1))) := ⟨_, rfl⟩
                obtain ⟨c36, hc36⟩ : ∃ c1, c1 = co14 - (x9_3 : Int).toNat := ⟨_, rfl⟩
                have hy36 : y291.length = y268.length - (x9_3 : Int).toNat := (by rw [Ny291.out, List.length_drop] <;> omega)
                rw [show (y268).drop (x9_3 : Int).toNat = y291 from Ny291.out.symm] at hr36
                replace hr36 : Kd.F (Kd.int .u8) _ _ A36 y291.length y291 := (by rw [hA36]; exact hr36)
                rw [← hy36, ← hA36, ← hc36] at hcut36
                have HO295 := aM (show Kd.V (Kd.int .u8) 5 _ w.heap.size _ (.slice A36 y291.length c36) y291 from Kd.V_mk (by rw [hy36, hc36]; exact Nat.sub_le_sub_right hroom36 _) hr36)
                have HC295 := aM (show y291.length ≤ c36 from by rw [hy36, hc36]; exact Nat.sub_le_sub_right hroom36 _)
                clear hr36 hC36 hroom36 hi036 hsz36 hc36
                have KY36 := aM hy36
                have KA36 := aM hA36
                clear hy36 hA36
                replace q36 := eq_true q36
                go_wp2
                go_loopg [16, 82] kj27 (fun kq v16 v82 w' => ∃ (x16_5 : Int) (x82_5 : Int), v16 = .int .i64 x16_5 ∧ v82 = .int .i64 x82_5 ∧ Aside0 (impl_HeadOf.l1 kq x12_3 x16_5 y291 (y291.length : Int) x82_5 = some (r1, r2, r3)) ∧ Aside0 (kq ≤ kj27) ∧ Aside0 (Kd.R (Kd.int .i64) 3 w' w.heap.size (fun _ => True) u12 x12_3) ∧ Aside0 (Kd.V (Kd.int .u8) 5 w' w.heap.size (fun k_ => some k_ ≠ (u12 : Value).ownBlock) (.slice A36 y291.length c36) y291) ∧ Aside0 (Below w.heap.size w w'))
                case atStart => exact ⟨(0), (0), (by first | rfl | (simp; done) | (simp [*]; done) | (simp; exact (by intro l_; cases l_ <;> rfl : ∀ l_ : List UInt8, l_.isEmpty = !(l_ != [])) _)), (by first | rfl | (simp; done) | (simp [*]; done) | (simp; exact (by intro l_; cases l_ <;> rfl : ∀ l_ : List UInt8, l_.isEmpty = !(l_ != [])) _)), H', ⟨Nat.le_refl _⟩, ⟨rP HO_12.out⟩, ⟨by (with_reducible repeat (first | apply Kd.V_alloc | apply Kd.V_drewN | apply Kd.V_drew)); exact HO295.out⟩, ⟨bB⟩⟩
                case round =>
                 clear H'
                 try clear c1
                 try clear c2
                 try clear p2
                 try clear q2
                 try clear hx2
                 try clear qi2
                 try clear c3
                 try clear c3b0
                 try clear c3b1
                 try clear c3b2
                 try clear q3
                 try clear p6
                 try clear c7
                 try clear c7b0
                 try clear c7b1
                 try clear c7b2
                 try clear c8
                 try clear c9
                 try clear c9b0
                 try clear c9b1
                 try clear c11
                 try clear c15
                 try clear c16
                 try clear c21
                 try clear c21b0
                 try clear c23
                 try clear c24
                 try clear c25
                 try clear p27
                 try clear q27
                 try clear hx27
                 try clear qi27
                 try clear c29
                 try clear c29b0
                 try clear c29b1
                 try clear c29b2
                 try clear c33
                 try clear c34
                 try clear c34b0
                 try clear c34b1
                 try clear c35
                 try clear c35b0
                 try clear c35b1
                 try clear c36
                 try clear q36
                 try clear hx271_0
                 try clear p2
                 try clear p27
                 try clear p271
                 try clear p6
                 try clear q036
                 try clear q2
                 try clear q27
                 try clear q271
                 try clear q36
                 obtain ⟨x16_5, x82_5, rfl, rfl, HA, HK5, HO_12, HO_80, HB⟩ := hrel
                 cases gk with
                 | zero => exact absurd HA.out (by simp [impl_HeadOf.l1])
                 | succ k5 =>
                  have H := HA.out
                  clear HA
                  simp only [impl_HeadOf.l1] at H
                  by_cases c37 : x82_5 < (y291.length : Int)
                  ·rw [if_pos c37] at H
                   have c37b0 : decide (x82_5 < (y291.length : Int)) = true := decide_eq_true c37
                   clear c37
                   by_cases c38 : 0 ≤ x82_5
                   ·rw [if_pos c38] at H
                    have c38b0 : decide (0 ≤ x82_5) = true := decide_eq_true c38
                    clear c38
                    by_cases c39 : x82_5 < (y291.length : Int)
                    ·rw [if_pos c39] at H
                     have c39b0 : decide (x82_5 < (y291.length : Int)) = true := decide_eq_true c39
                     clear c39
                     have H' := aM H
                     clear H
                     have p296 : 0 ≤ (x82_5 : Int) := dT
                     have q296 : x82_5 < (y291.length : Int) := dT
                     obtain ⟨ad296, e296, hx296_0⟩ := Kd.at_int (Kd.V_reads' HO_80.out).2.2 x82_5 p296 q296
                     cases e296
                     replace p296 := eq_true p296
                     replace q296 := eq_true q296
                     go_wp2
                     go_roundg k5
                     case measure => have := HJ3.out; have := HJ12.out; have := HK3.out; have := HJ27.out; have := HK5.out; omega
                     case rel => exact ⟨(Go.bits .or .i64 (wrap64 (x16_5 * 256)) (wrap64 (rd y291 x82_5))), (wrap64 (x82_5 + 1)), (by first | rfl | (simp; done) | (simp [*]; done) | (simp; exact (by intro l_; cases l_ <;> rfl : ∀ l_ : List UInt8, l_.isEmpty = !(l_ != [])) _)), (by first | rfl | (simp; done) | (simp [*]; done) | (simp; exact (by intro l_; cases l_ <;> rfl : ∀ l_ : List UInt8, l_.isEmpty = !(l_ != [])) _)), H', ⟨by have := HJ3.out; have := HJ12.out; have := HK3.out; have := HJ27.out; have := HK5.out; omega⟩, ⟨rP HO_12.out⟩, ⟨by (with_reducible repeat (first | apply Kd.V_alloc | apply Kd.V_drewN | apply Kd.V_drew)); exact HO_80.out⟩, ⟨bB⟩⟩
                    ·rw [if_neg c39] at H
                     exact absurd H (by simp)
                   ·rw [if_neg c38] at H
                    exact absurd H (by simp)
                  ·rw [if_neg c37] at H
                   have c37b0 : decide (x82_5 < (y291.length : Int)) = false := decide_eq_false c37
                   clear c37
                   simp only [Option.some.injEq, Prod.mk.injEq] at H
                   obtain ⟨rfl, rfl, rfl⟩ := H
                   go_wp2
                   go_ret3
                   exact ⟨_, eW, by (with_reducible repeat (first | apply Kd.R_alloc | apply Kd.R_drewN | apply Kd.R_drew)); exact HO_12.out, bB⟩
               ·rw [if_neg c35] at H
                exact absurd H (by simp)
              ·rw [if_neg c34] at H
               exact absurd H (by simp)
 rw [if_neg c3] at H
 exact absurd H (by simp)

end Go.Proofs.Ytgmpdkefegofhaa.PFnRecovered
