-- Written by xprint.py, a program of this session over the kit's print. Not trusted: Lean checks it.
import Derived.Test.YtadfimhielcmmaaPFnNodesx0
import Derived.Test.YtadfimhielcmmaaPFnNodesx2
namespace Go.Proofs.Ytadfimhielcmmaa.PFnNodes
open Go.RowKit Go.Proofs.YtadfimhielcmmaaW.PrintWords Go.Proofs.YtadfimhielcmmaaW.PrintLast Go.Proofs.YtadfimhielcmmaaW.PrintMore
attribute [local go_sem] max2_int min2_int max_two min_two max_three min_three max_four min_four   -- for this text's walks alone
set_option linter.unusedVariables false
set_option linter.unusedSimpArgs false

/-! ### spec_GetNum: function 31 -/
mutual
def spec_GetNum.l0 : Nat → List Int → Int → Int → Int → Option (Int × Int × Bool)
 | 0, _, _, _, _ => none
 | k + 1, x0, x1, x7, x8 => if x8 < 5 then (if x1 < 0 then (spec_GetNum.j1 k x0 x1 x7 x8 true) else (spec_GetNum.j1 k x0 x1 x7 x8 (decide (x1 ≥ (wrap64 ((x0.length : Int) - x8)))))) else (some (0, 0, false))
def spec_GetNum.j1 : Nat → List Int → Int → Int → Int → Bool → Option (Int × Int × Bool)
 | 0, _, _, _, _, _ => none
 | k + 1, x0, x1, x7, x8, x23 => if x23 = true then (some (0, 0, false)) else (if 0 ≤ (wrap64 (x1 + x8)) then (if (wrap64 (x1 + x8)) < (x0.length : Int) then (if 0 ≤ (wrap64 (7 * x8)) then (if (wrap64 (rd x0 (wrap64 (x1 + x8)))) < 128 then (if x8 > 0 then (if (wrap64 (rd x0 (wrap64 (x1 + x8)))) = 0 then (some (0, 0, false)) else (if (Go.bits .or .i64 x7 (shl .i64 (Int.tmod (wrap64 (rd x0 (wrap64 (x1 + x8)))) 128) (wrap64 (7 * x8)))) > 2147483647 then (some (0, 0, false)) else (some (Go.bits .or .i64 x7 (shl .i64 (Int.tmod (wrap64 (rd x0 (wrap64 (x1 + x8)))) 128) (wrap64 (7 * x8))), wrap64 ((wrap64 (x1 + x8)) + 1), true)))) else (if (Go.bits .or .i64 x7 (shl .i64 (Int.tmod (wrap64 (rd x0 (wrap64 (x1 + x8)))) 128) (wrap64 (7 * x8)))) > 2147483647 then (some (0, 0, false)) else (some (Go.bits .or .i64 x7 (shl .i64 (Int.tmod (wrap64 (rd x0 (wrap64 (x1 + x8)))) 128) (wrap64 (7 * x8))), wrap64 ((wrap64 (x1 + x8)) + 1), true)))) else (spec_GetNum.l0 k x0 x1 (Go.bits .or .i64 x7 (shl .i64 (Int.tmod (wrap64 (rd x0 (wrap64 (x1 + x8)))) 128) (wrap64 (7 * x8)))) (wrap64 (x8 + 1)))) else (none)) else (none)) else (none))
end
def spec_GetNum.f (k : Nat) (l0 : List Int) (a1 : Int) : Option (Int × Int × Bool) := spec_GetNum.l0 k l0 a1 0 0
theorem spec_GetNum.mono_l : ∀ k, (∀ y0 y1 y2 y3, LeO (spec_GetNum.l0 k y0 y1 y2 y3) (spec_GetNum.l0 (k + 1) y0 y1 y2 y3)) ∧ (∀ y0 y1 y2 y3 y4, LeO (spec_GetNum.j1 k y0 y1 y2 y3 y4) (spec_GetNum.j1 (k + 1) y0 y1 y2 y3 y4))
 | 0 => ⟨fun _ _ _ _ r h => by simp [spec_GetNum.l0] at h, fun _ _ _ _ _ r h => by simp [spec_GetNum.j1] at h⟩
 | k + 1 => by
  obtain ⟨ih0, ih1⟩ := spec_GetNum.mono_l k
  refine ⟨?_, ?_⟩
  ·intro y0 y1 y2 y3
   unfold spec_GetNum.l0
   exact mM
  ·intro y0 y1 y2 y3 y4
   unfold spec_GetNum.j1
   exact mM
theorem spec_GetNum.mono : ∀ a0 a1 k, LeO (spec_GetNum.f k a0 a1) (spec_GetNum.f (k + 1) a0 a1) := by
 intro a0 a1 k
 obtain ⟨ih0, ih1⟩ := spec_GetNum.mono_l k
 unfold spec_GetNum.f
 exact mM
set_option maxHeartbeats 8000000 in
set_option maxRecDepth 100000 in
theorem spec_GetNum.calls (k : Nat) (A0 : Option Addr) (c0 : Nat) (l0 : List Int) (a1 : Int) (r1 : Int) (r2 : Int) (r3 : Bool) (w : World) (hr0 : Kd.C (Kd.int .u8) w A0 l0.length l0) (hc0 : l0.length ≤ c0) (h : spec_GetNum.f k l0 a1 = some (r1, r2, r3)) :
  Calls Try.prog 31 #[.slice A0 l0.length c0, .int .i64 a1] w fun e w' => e = .returned (.tuple #[.int .i64 r1, .int .i64 r2, .bool r3]) ∧ Drawn0 w w' := by
 have HR0 := aM hr0
 have HC0 := aM hc0
 clear hr0 hc0
 unfold spec_GetNum.f at h
 have H := h
 clear h
 have H' := aM H
 clear H
 go_enter Try.func31, Try.ntmps31
 go_wp2
 go_loopg [7, 8] k (fun kq v7 v8 w' => ∃ (x7_1 : Int) (x8_1 : Int), v7 = .int .i64 x7_1 ∧ v8 = .int .i64 x8_1 ∧ Aside0 (spec_GetNum.l0 kq l0 a1 x7_1 x8_1 = some (r1, r2, r3)) ∧ Aside0 (kq ≤ k) ∧ Drawn0 w w')
 case atStart => exact ⟨(0), (0), (by first | rfl | (simp; done) | (simp [*]; done) | (simp; exact (by intro l_; cases l_ <;> rfl : ∀ l_ : List UInt8, l_.isEmpty = !(l_ != [])) _)), (by first | rfl | (simp; done) | (simp [*]; done) | (simp; exact (by intro l_; cases l_ <;> rfl : ∀ l_ : List UInt8, l_.isEmpty = !(l_ != [])) _)), H', ⟨Nat.le_refl _⟩, by repeat (first | exact Drawn0.refl _ | apply Drawn0.step)⟩
 case round =>
  clear H'
  try clear p2
  obtain ⟨x7_1, x8_1, rfl, rfl, HA, HK1, ⟨m1, rfl⟩⟩ := hrel
  cases gk with
  | zero => exact absurd HA.out (by simp [spec_GetNum.l0])
  | succ k1 =>
   have H := HA.out
   clear HA
   simp only [spec_GetNum.l0] at H
   by_cases c3 : x8_1 < 5
   ·rw [if_pos c3] at H
    have c3b0 : decide (x8_1 < 5) = true := decide_eq_true c3
    clear c3
    have HC4 := aM H
    clear H
    go_upto_region 5 with (fail)
    go_cut [23] (fun v23 wc => ∃ (kq : Nat) (x23_3 : Bool), v23 = .bool x23_3 ∧ Aside0 (spec_GetNum.j1 kq l0 a1 x7_1 x8_1 x23_3 = some (r1, r2, r3)) ∧ Aside0 (kq ≤ k1) ∧ Drawn0 w wc)
    case first =>
     have H := HC4.out
     clear HC4
     by_cases c5 : a1 < 0
     ·rw [if_pos c5] at H
      have c5b0 : decide (a1 < 0) = true := decide_eq_true c5
      clear c5
      (first | rw [c5b0] | (simp only [i64_w, i32_w]; rw [c5b0]) | rw [c5b1] | rw [c5b2] | skip)
      have H' := aM H
      clear H
      go_wp2
      go_meet
      case rel => exact ⟨_, (true), (by first | rfl | (simp; done) | (simp [*]; done) | (simp; exact (by intro l_; cases l_ <;> rfl : ∀ l_ : List UInt8, l_.isEmpty = !(l_ != [])) _)), H', ⟨by have := HK1.out; first | omega | exact Nat.le_refl _⟩, by repeat (first | exact Drawn0.refl _ | apply Drawn0.step)⟩
     ·rw [if_neg c5] at H
      have c5b0 : decide (a1 < 0) = false := decide_eq_false c5
      clear c5
      (first | rw [c5b0] | (simp only [i64_w, i32_w]; rw [c5b0]) | rw [c5b1] | rw [c5b2] | skip)
      have H' := aM H
      clear H
      go_wp2
      go_meet
      case rel => exact ⟨_, (decide (a1 ≥ (wrap64 ((l0.length : Int) - x8_1)))), (by first | rfl | (simp; done) | (simp [*]; done) | (simp; exact (by intro l_; cases l_ <;> rfl : ∀ l_ : List UInt8, l_.isEmpty = !(l_ != [])) _)), H', ⟨by have := HK1.out; first | omega | exact Nat.le_refl _⟩, by repeat (first | exact Drawn0.refl _ | apply Drawn0.step)⟩
    case rest =>
     clear HC4
     try clear p2
     try clear c3
     try clear c3b0
     try clear c5
     try clear c5b0
     try clear c5b1
     try clear c5b2
     try clear p2
     obtain ⟨kq, x23_3, rfl, HA, HJ3, ⟨mc3, rfl⟩⟩ := hcut
     cases kq with
     | zero => exact absurd HA.out (by simp [spec_GetNum.j1])
     | succ kj3 =>
      have H := HA.out
      clear HA
      simp only [spec_GetNum.j1] at H
      by_cases c6 : x23_3 = true
      ·subst c6
       rw [if_pos rfl] at H
       simp only [Option.some.injEq, Prod.mk.injEq] at H
       obtain ⟨rfl, rfl, rfl⟩ := H
       go_wp2
       go_ret3
       exact ⟨by first | rfl | (simp; done) | (simp [*]; done), by repeat (first | exact Drawn0.refl _ | apply Drawn0.step)⟩
      ·replace c6 := Bool.eq_false_iff.mpr c6
       subst c6
       rw [if_neg (show ¬ (false = true) by decide)] at H
       obtain ⟨ji7, hji7⟩ : ∃ j_ : Int, (wrap64 (a1 + x8_1)) = j_ := ⟨_, rfl⟩
       replace H : (if 0 ≤ (ji7) then (if (ji7) < (l0.length : Int) then (if 0 ≤ (wrap64 (7 * x8_1)) then (if (wrap64 (rd l0 (ji7))) < 128 then (if x8_1 > 0 then (if (wrap64 (rd l0 (ji7))) = 0 then (some (0, 0, false)) else (if (Go.bits .or .i64 x7_1 (shl .i64 (Int.tmod (wrap64 (rd l0 (ji7))) 128) (wrap64 (7 * x8_1)))) > 2147483647 then (some (0, 0, false)) else (some (Go.bits .or .i64 x7_1 (shl .i64 (Int.tmod (wrap64 (rd l0 (ji7))) 128) (wrap64 (7 * x8_1))), wrap64 ((ji7) + 1), true)))) else (if (Go.bits .or .i64 x7_1 (shl .i64 (Int.tmod (wrap64 (rd l0 (ji7))) 128) (wrap64 (7 * x8_1)))) > 2147483647 then (some (0, 0, false)) else (some (Go.bits .or .i64 x7_1 (shl .i64 (Int.tmod (wrap64 (rd l0 (ji7))) 128) (wrap64 (7 * x8_1))), wrap64 ((ji7) + 1), true)))) else (spec_GetNum.l0 kj3 l0 a1 (Go.bits .or .i64 x7_1 (shl .i64 (Int.tmod (wrap64 (rd l0 (ji7))) 128) (wrap64 (7 * x8_1)))) (wrap64 (x8_1 + 1)))) else (none)) else (none)) else (none)) = some (r1, r2, r3) := by first | (rw [hji7] at H; exact H) | (simp only [hji7] at H ⊢; exact H)
       have hji7w : (IntKind.i64.wrap (a1 + x8_1)) = ji7 := (i64_w _).trans hji7
       by_cases c8 : 0 ≤ (ji7)
       ·rw [if_pos c8] at H
        have c8b0 : decide (0 ≤ (ji7)) = true := decide_eq_true c8
        clear c8
        by_cases c9 : (ji7) < (l0.length : Int)
        ·rw [if_pos c9] at H
         have c9b0 : decide ((ji7) < (l0.length : Int)) = true := decide_eq_true c9
         clear c9
         obtain ⟨ji10, hji10⟩ : ∃ j_ : Int, (wrap64 (7 * x8_1)) = j_ := ⟨_, rfl⟩
         replace H : (if 0 ≤ (ji10) then (if (wrap64 (rd l0 (ji7))) < 128 then (if x8_1 > 0 then (if (wrap64 (rd l0 (ji7))) = 0 then (some (0, 0, false)) else (if (Go.bits .or .i64 x7_1 (shl .i64 (Int.tmod (wrap64 (rd l0 (ji7))) 128) (ji10))) > 2147483647 then (some (0, 0, false)) else (some (Go.bits .or .i64 x7_1 (shl .i64 (Int.tmod (wrap64 (rd l0 (ji7))) 128) (ji10)), wrap64 ((ji7) + 1), true)))) else (if (Go.bits .or .i64 x7_1 (shl .i64 (Int.tmod (wrap64 (rd l0 (ji7))) 128) (ji10))) > 2147483647 then (some (0, 0, false)) else (some (Go.bits .or .i64 x7_1 (shl .i64 (Int.tmod (wrap64 (rd l0 (ji7))) 128) (ji10)), wrap64 ((ji7) + 1), true)))) else (spec_GetNum.l0 kj3 l0 a1 (Go.bits .or .i64 x7_1 (shl .i64 (Int.tmod (wrap64 (rd l0 (ji7))) 128) (ji10))) (wrap64 (x8_1 + 1)))) else (none)) = some (r1, r2, r3) := by first | (rw [hji10] at H; exact H) | (simp only [hji10] at H ⊢; exact H)
         have hji10w : (IntKind.i64.wrap (7 * x8_1)) = ji10 := (i64_w _).trans hji10
         by_cases c11 : 0 ≤ (ji10)
         ·rw [if_pos c11] at H
          have c11b0 := eq_true c11
          have c11b1 : decide (0 ≤ (ji10)) = true := decide_eq_true c11
          clear c11
          obtain ⟨ji12, hji12⟩ : ∃ j_ : Int, (shl .i64 (Int.tmod (wrap64 (rd l0 (ji7))) 128) (ji10)) = j_ := ⟨_, rfl⟩
          replace H : (if (wrap64 (rd l0 (ji7))) < 128 then (if x8_1 > 0 then (if (wrap64 (rd l0 (ji7))) = 0 then (some (0, 0, false)) else (if (Go.bits .or .i64 x7_1 (ji12)) > 2147483647 then (some (0, 0, false)) else (some (Go.bits .or .i64 x7_1 (ji12), wrap64 ((ji7) + 1), true)))) else (if (Go.bits .or .i64 x7_1 (ji12)) > 2147483647 then (some (0, 0, false)) else (some (Go.bits .or .i64 x7_1 (ji12), wrap64 ((ji7) + 1), true)))) else (spec_GetNum.l0 kj3 l0 a1 (Go.bits .or .i64 x7_1 (ji12)) (wrap64 (x8_1 + 1)))) = some (r1, r2, r3) := by first | (rw [hji12] at H; exact H) | (simp only [hji12] at H ⊢; exact H)
          have hji12_ : (IntKind.i64.wrap ((Int.tmod (wrap64 (rd l0 (ji7))) 128) * 2 ^ min (ji10).toNat 64)) = ji12 := hji12
          have hji12z : (ji10) ≤ 64 → (IntKind.i64.wrap ((Int.tmod (wrap64 (rd l0 (ji7))) 128) * 2 ^ (ji10).toNat)) = ji12 := shl_small hji12
          have hji12y : (wrap64 ((Int.tmod (wrap64 (rd l0 (ji7))) 128) * 2 ^ min (ji10).toNat 64)) = ji12 := (i64_w _).symm.trans hji12_
          have hji12x : (ji10) ≤ 64 → (wrap64 ((Int.tmod (wrap64 (rd l0 (ji7))) 128) * 2 ^ (ji10).toNat)) = ji12 := fun h_ => (i64_w _).symm.trans (hji12z h_)
          by_cases c13 : (wrap64 (rd l0 (ji7))) < 128
          ·rw [if_pos c13] at H
           have c13b0 : decide ((wrap64 (rd l0 (ji7))) < 128) = true := decide_eq_true c13
           clear c13
           by_cases c14 : x8_1 > 0
           ·rw [if_pos c14] at H
            have c14b0 : decide (0 < x8_1) = true := decide_eq_true c14
            clear c14
            by_cases c15 : (wrap64 (rd l0 (ji7))) = 0
            ·rw [if_pos c15] at H
             have c15b0 : ((wrap64 (rd l0 (ji7))) == 0) = true := beq_iff_eq.mpr c15
             have c15b1 : ((wrap64 (rd l0 (ji7))) != 0) = false := bne_eq_false_iff_eq.mpr c15
             clear c15
             simp only [Option.some.injEq, Prod.mk.injEq] at H
             obtain ⟨rfl, rfl, rfl⟩ := H
             have p113 : 0 ≤ ((ji7) : Int) := dT
             have q113 : (ji7) < (l0.length : Int) := dT
             obtain ⟨ad113, e113, hx113_0⟩ := Kd.at_int HR0.out (ji7) p113 q113
             cases e113
             replace p113 := eq_true p113
             replace q113 := eq_true q113
             go_wp2
             go_ret3
             exact ⟨by first | rfl | (simp; done) | (simp only [← hji7, ← hji10, ← hji12] <;> (first | rfl | simp)) | (simp [*]; done), by repeat (first | exact Drawn0.refl _ | apply Drawn0.step)⟩
            ·rw [if_neg c15] at H
             have c15b0 : ((wrap64 (rd l0 (ji7))) == 0) = false := beq_eq_false_iff_ne.mpr c15
             have c15b1 : ((wrap64 (rd l0 (ji7))) != 0) = true := bne_iff_ne.mpr c15
             by_cases c16 : (Go.bits .or .i64 x7_1 (ji12)) > 2147483647
             ·rw [if_pos c16] at H
              have c16b0 : decide (2147483647 < (Go.bits .or .i64 x7_1 (ji12))) = true := decide_eq_true c16
              clear c16
              simp only [Option.some.injEq, Prod.mk.injEq] at H
              obtain ⟨rfl, rfl, rfl⟩ := H
              have p113 : 0 ≤ ((ji7) : Int) := dT
              have q113 : (ji7) < (l0.length : Int) := dT
              obtain ⟨ad113, e113, hx113_0⟩ := Kd.at_int HR0.out (ji7) p113 q113
              cases e113
              replace p113 := eq_true p113
              replace q113 := eq_true q113
              go_wp2
              go_ret3
              exact ⟨by first | rfl | (simp; done) | (simp only [← hji7, ← hji10, ← hji12] <;> (first | rfl | simp)) | (simp [*]; done), by repeat (first | exact Drawn0.refl _ | apply Drawn0.step)⟩
             ·rw [if_neg c16] at H
              have c16b0 : decide (2147483647 < (Go.bits .or .i64 x7_1 (ji12))) = false := decide_eq_false c16
              clear c16
              simp only [Option.some.injEq, Prod.mk.injEq] at H
              obtain ⟨rfl, rfl, rfl⟩ := H
              have p113 : 0 ≤ ((ji7) : Int) := dT
              have q113 : (ji7) < (l0.length : Int) := dT
              obtain ⟨ad113, e113, hx113_0⟩ := Kd.at_int HR0.out (ji7) p113 q113
              cases e113
              replace p113 := eq_true p113
              replace q113 := eq_true q113
              go_wp2
              go_ret3
              exact ⟨by first | rfl | (simp; done) | (simp only [← hji7, ← hji10, ← hji12] <;> (first | rfl | simp)) | (simp [*]; done), by repeat (first | exact Drawn0.refl _ | apply Drawn0.step)⟩
           ·rw [if_neg c14] at H
            have c14b0 : decide (0 < x8_1) = false := decide_eq_false c14
            clear c14
            by_cases c17 : (Go.bits .or .i64 x7_1 (ji12)) > 2147483647
            ·rw [if_pos c17] at H
             have c17b0 : decide (2147483647 < (Go.bits .or .i64 x7_1 (ji12))) = true := decide_eq_true c17
             clear c17
             simp only [Option.some.injEq, Prod.mk.injEq] at H
             obtain ⟨rfl, rfl, rfl⟩ := H
             have p113 : 0 ≤ ((ji7) : Int) := dT
             have q113 : (ji7) < (l0.length : Int) := dT
             obtain ⟨ad113, e113, hx113_0⟩ := Kd.at_int HR0.out (ji7) p113 q113
             cases e113
             replace p113 := eq_true p113
             replace q113 := eq_true q113
             go_wp2
             go_ret3
             exact ⟨by first | rfl | (simp; done) | (simp only [← hji7, ← hji10, ← hji12] <;> (first | rfl | simp)) | (simp [*]; done), by repeat (first | exact Drawn0.refl _ | apply Drawn0.step)⟩
            ·rw [if_neg c17] at H
             have c17b0 : decide (2147483647 < (Go.bits .or .i64 x7_1 (ji12))) = false := decide_eq_false c17
             clear c17
             simp only [Option.some.injEq, Prod.mk.injEq] at H
             obtain ⟨rfl, rfl, rfl⟩ := H
             have p113 : 0 ≤ ((ji7) : Int) := dT
             have q113 : (ji7) < (l0.length : Int) := dT
             obtain ⟨ad113, e113, hx113_0⟩ := Kd.at_int HR0.out (ji7) p113 q113
             cases e113
             replace p113 := eq_true p113
             replace q113 := eq_true q113
             go_wp2
             go_ret3
             exact ⟨by first | rfl | (simp; done) | (simp only [← hji7, ← hji10, ← hji12] <;> (first | rfl | simp)) | (simp [*]; done), by repeat (first | exact Drawn0.refl _ | apply Drawn0.step)⟩
          ·rw [if_neg c13] at H
           have c13b0 : decide ((wrap64 (rd l0 (ji7))) < 128) = false := decide_eq_false c13
           clear c13
           have H' := aM H
           clear H
           have p113 : 0 ≤ ((ji7) : Int) := dT
           have q113 : (ji7) < (l0.length : Int) := dT
           obtain ⟨ad113, e113, hx113_0⟩ := Kd.at_int HR0.out (ji7) p113 q113
           cases e113
           replace p113 := eq_true p113
           replace q113 := eq_true q113
           go_wp2
           go_roundg kj3
           case measure => have := HK1.out; have := HJ3.out; omega
           case rel => exact ⟨(Go.bits .or .i64 x7_1 (ji12)), (wrap64 (x8_1 + 1)), (by first | rfl | (simp; done) | (simp only [← hji12] <;> (first | rfl | simp)) | (simp [*]; done)), (by first | rfl | (simp; done) | (simp [*]; done) | (simp; exact (by intro l_; cases l_ <;> rfl : ∀ l_ : List UInt8, l_.isEmpty = !(l_ != [])) _)), H', ⟨by have := HK1.out; have := HJ3.out; omega⟩, by repeat (first | exact Drawn0.refl _ | apply Drawn0.step)⟩
         ·rw [if_neg c11] at H
          exact absurd H (by simp)
        ·rw [if_neg c9] at H
         exact absurd H (by simp)
       ·rw [if_neg c8] at H
        exact absurd H (by simp)
   ·rw [if_neg c3] at H
    have c3b0 : decide (x8_1 < 5) = false := decide_eq_false c3
    clear c3
    simp only [Option.some.injEq, Prod.mk.injEq] at H
    obtain ⟨rfl, rfl, rfl⟩ := H
    go_wp2
    go_ret3
    exact ⟨by first | rfl | (simp; done) | (simp [*]; done), by repeat (first | exact Drawn0.refl _ | apply Drawn0.step)⟩

/-! ### spec_NodeOf: function 11 -/
def spec_NodeOf.l0 : Nat → List Int → List Int → Int → Int → Int → Int → Int → Option (Int × Int × Int × Int × List Int × Bool)
 | 0, _, _, _, _, _, _, _ => none
 | k + 1, x4, x6, x7, x120000, x120001, x120002, x120003 => if x7 < (x4.length : Int) then ((spec_GetNum.f k x4 x7).bind fun bt123 => (if bt123.2.2 = true then (if x6.length < 17592186044416 then (spec_NodeOf.l0 k x4 (x6 ++ [bt123.1]) bt123.2.1 x120000 x120001 x120002 x120003) else (none)) else (some (0, 0, 0, 0, ([] : List Int), false)))) else (if (x6.length : Int) < 3 then (some (0, 0, 0, 0, ([] : List Int), false)) else (if 0 < (x6.length : Int) then (if 1 < (x6.length : Int) then (if 2 < (x6.length : Int) then ((some (([] : List Int) : List Int)).bind fun y132 => (if 3 ≤ (x6.length : Int) then ((some (x6.drop 3 : List Int)).bind fun y135 => (if y132.length + y135.length < 17592186044416 then ((some (y132 ++ y135 : List Int)).bind fun y139 => ((spec_NodeOk.f k x120000 (rd x6 0) (rd x6 1) (rd x6 2) y139).bind fun t142 => (if t142 = true then (some (x120000, rd x6 0, rd x6 1, rd x6 2, y139, true)) else (some (0, 0, 0, 0, ([] : List Int), false))))) else (none))) else (none))) else (none)) else (none)) else (none)))
def spec_NodeOf.f (k : Nat) (a0 : ByteArray) : Option (Int × Int × Int × Int × List Int × Bool) := if a0.size ≤ 9223372036854775807 then ((some (bytesOf a0 : List Int)).bind fun y115 => (if (y115.length : Int) = 0 then (some (0, 0, 0, 0, ([] : List Int), false)) else (if 0 < (y115.length : Int) then (if (wrap64 (rd y115 0)) = 0 then (some (wrap64 (rd y115 0), 0, 0, 0, ([] : List Int), ((y115.length : Int) == 1))) else (spec_NodeOf.l0 k y115 (([] : List Int)) 1 (wrap64 (rd y115 0)) 0 0 0)) else (none)))) else (none)
theorem spec_NodeOf.mono_l : ∀ k, (∀ y0 y1 y2 y3 y4 y5 y6, LeO (spec_NodeOf.l0 k y0 y1 y2 y3 y4 y5 y6) (spec_NodeOf.l0 (k + 1) y0 y1 y2 y3 y4 y5 y6))
 | 0 => fun _ _ _ _ _ _ _ r h => by simp [spec_NodeOf.l0] at h
 | k + 1 => by
  have ih0 := spec_NodeOf.mono_l k
  ·intro y0 y1 y2 y3 y4 y5 y6
   unfold spec_NodeOf.l0
   have m0_ := @spec_GetNum.mono
   have m1_ := @spec_NodeOk.mono
   exact mM
theorem spec_NodeOf.mono : ∀ a0 k, LeO (spec_NodeOf.f k a0) (spec_NodeOf.f (k + 1) a0) := by
 intro a0 k
 have ih0 := spec_NodeOf.mono_l k
 unfold spec_NodeOf.f
 have m0_ := @spec_GetNum.mono
 have m1_ := @spec_NodeOk.mono
 exact mM
set_option maxHeartbeats 8000000 in
set_option maxRecDepth 100000 in
theorem spec_NodeOf.calls (k : Nat) (a0 : ByteArray) (r1 : Int) (r2 : Int) (r3 : Int) (r4 : Int) (r5 : List Int) (r6 : Bool) (w : World) (h : spec_NodeOf.f k a0 = some (r1, r2, r3, r4, r5, r6)) :
  Calls Try.prog 11 #[.string a0] w fun e w' => ∃ v4_ : Value, e = .returned (.tuple #[.agg #[.int .i64 r1, .int .i64 r2, .int .i64 r3, .int .i64 r4, v4_], .bool r6]) ∧ Kd.R (Kd.int .i64) 3 w' w.heap.size (fun _ => True) v4_ r5 ∧ Below w.heap.size w w' := by
 have hu33 := Try.underlying33
 have HB := aM (Below.refl w.heap.size w)
 unfold spec_NodeOf.f at h
 have H := h
 clear h
 by_cases c2 : a0.size ≤ 9223372036854775807
 ·rw [if_pos c2] at H
  have c2b0 := eq_true c2
  have c2b1 : decide (a0.size ≤ 9223372036854775807) = true := decide_eq_true c2
  try have c2b2 : (9223372036854775807 < a0.size) = False := eq_false (Nat.not_lt.2 c2)
  clear c2
  obtain ⟨y115, hy115⟩ : ∃ y_ : List Int, y_ = (bytesOf a0) := ⟨_, rfl⟩
  replace H : (if (y115.length : Int) = 0 then (some (0, 0, 0, 0, ([] : List Int), false)) else (if 0 < (y115.length : Int) then (if (wrap64 (rd y115 0)) = 0 then (some (wrap64 (rd y115 0), 0, 0, 0, ([] : List Int), ((y115.length : Int) == 1))) else (spec_NodeOf.l0 k y115 (([] : List Int)) 1 (wrap64 (rd y115 0)) 0 0 0)) else (none))) = some (r1, r2, r3, r4, r5, r6) := bQ hy115 H
  have Ny115 := aM hy115
  clear hy115
  by_cases c3 : (y115.length : Int) = 0
  ·rw [if_pos c3] at H
   have c3b0 : ((y115.length : Int) == 0) = true := beq_iff_eq.mpr c3
   have c3b1 : ((y115.length : Int) != 0) = false := bne_eq_false_iff_eq.mpr c3
   clear c3
   simp only [Option.some.injEq, Prod.mk.injEq] at H
   obtain ⟨rfl, rfl, rfl, rfl, rfl, rfl⟩ := H
   go_enter Try.func11, Try.ntmps11
   go_wp2_with (first | ((with_reducible refine gate_dst (N := 2) rfl ?_); refine bE 2 #[.int .i64 0, .int .i64 0, .int .i64 0, .int .i64 0, .slice none 0 0] 33 ?_; intro gb114 hg w4 hbox hb; have n_ := aI (sB HB hb) (aI (aM hbox) (aI (gE HB hg) (gE HB hg))); clear HB; obtain ⟨HB, BK114, GW114, GE114⟩ := n_; (try clear hb hbox hg)) | ((with_reducible refine gate_dst (N := 12) rfl ?_); refine V_bytes 5 rfl (N' := 12) rfl 9 39 _ rfl a0 rfl Try.underlying9 Try.underlying39 Try.underlying5 (by first | (with_reducible assumption) | assumption | exact dT) ?_; intro v116 w5 ho6 hb hg_ hnew_; clear hg_ hnew_; (first | rw [← Ny115.out] at ho6 | (simp only [Int.reduceToNat] at ho6; rw [← Ny115.out] at ho6)); have n_ := aI (aM (Kd.V_lower (Kd.V_mono (ok' := fun k_ => k_ ≠ gb114) ho6 (fun k_ hk_ => (Kd.freshB (g := gb114) (o := .cells #[.int .i64 0, .int .i64 0, .int .i64 0, .int .i64 0, .slice none 0 0] 33 (0, 0)) (kP BK114) k_ hk_))) (zB HB))) (aI (kB BK114 hb) (sB HB hb)); clear BK114 HB; obtain ⟨HO117, BK114, HB⟩ := n_; (try clear hb ho6); obtain ⟨Ao7, co7, eo7⟩ := Kd.V_slice HO117.out; subst eo7; have hcz8_0 := cZ0 BK114; have hcz8_1 := cZ1 BK114; have hcz8_2 : w5.cell? ⟨gb114, 2, none⟩ = some (.int .i64 0) := (blk_cell BK114.out 2).trans rfl; have hcz8_3 : w5.cell? ⟨gb114, 3, none⟩ = some (.int .i64 0) := (blk_cell BK114.out 3).trans rfl; have hcz8_4 : w5.cell? ⟨gb114, 4, none⟩ = some (.slice none 0 0) := (blk_cell BK114.out 4).trans rfl; have hfz8_0 := fZ BK114 0; have hfz8_1 := fZ BK114 1; have hfz8_2 := fZ BK114 2; have hfz8_3 := fZ BK114 3; have hfz8_4 := fZ BK114 4))
   refine bodyPost_ret (results_ct rfl _ _ gb114 33 #[.int .i64 0, .int .i64 0, .int .i64 0, .int .i64 0, .slice none 0 0] (0, 0) _ rfl (by (with_reducible repeat (first | apply bN | apply bD | apply bA)); refine blk_put (cs := #[.int .i64 0, .int .i64 0, .int .i64 0, .int .i64 0, .slice none 0 0]) ?_ 4 _ rfl; (with_reducible repeat (first | apply bN | apply bD | apply bA)); refine blk_put (cs := #[.int .i64 0, .int .i64 0, .int .i64 0, .int .i64 0, .slice none 0 0]) ?_ 3 _ rfl; (with_reducible repeat (first | apply bN | apply bD | apply bA)); refine blk_put (cs := #[.int .i64 0, .int .i64 0, .int .i64 0, .int .i64 0, .slice none 0 0]) ?_ 2 _ rfl; (with_reducible repeat (first | apply bN | apply bD | apply bA)); refine blk_put (cs := #[.int .i64 0, .int .i64 0, .int .i64 0, .int .i64 0, .slice none 0 0]) ?_ 1 _ rfl; (with_reducible repeat (first | apply bN | apply bD | apply bA)); refine blk_put (cs := #[.int .i64 0, .int .i64 0, .int .i64 0, .int .i64 0, .slice none 0 0]) ?_ 0 _ rfl; (with_reducible repeat (first | apply bN | apply bD | apply bA)); exact BK114.out) Try.underlying33 rfl (by kernel_rfl)) rfl ?_
   exact ⟨_, eW, by first | exact Kd.R_nil _ _ _ _ _ | exact Kd.N_nil _ _ _ _ _ | exact Kd.V_nil _ _ _ _ _ | exact Kd.Q_nil _ _ _ _ _ | exact Kd.S_nil _ _ _ _ _, bB⟩
  rw [if_neg c3] at H
  have c3b0 : ((y115.length : Int) == 0) = false := beq_eq_false_iff_ne.mpr c3
  have c3b1 : ((y115.length : Int) != 0) = true := bne_iff_ne.mpr c3
  have c3b2 : ¬ (y115 = []) := fun h_ => c3 (by rw [h_]; rfl)
  by_cases c9 : 0 < (y115.length : Int)
  ·rw [if_pos c9] at H
   have c9b0 : decide (0 < (y115.length : Int)) = true := decide_eq_true c9
   have c9b1 : decide (0 < y115.length) = true := decide_eq_true (by omega)
   clear c9
   by_cases c10 : (wrap64 (rd y115 0)) = 0
   ·rw [if_pos c10] at H
    have c10b0 : ((wrap64 (rd y115 0)) == 0) = true := beq_iff_eq.mpr c10
    have c10b1 : ((wrap64 (rd y115 0)) != 0) = false := bne_eq_false_iff_eq.mpr c10
    clear c10
    simp only [Option.some.injEq, Prod.mk.injEq] at H
    obtain ⟨rfl, rfl, rfl, rfl, rfl, rfl⟩ := H
    go_enter Try.func11, Try.ntmps11
    go_wp2_with (first | ((with_reducible refine gate_dst (N := 2) rfl ?_); refine bE 2 #[.int .i64 0, .int .i64 0, .int .i64 0, .int .i64 0, .slice none 0 0] 33 ?_; intro gb114 hg w11 hbox hb; have n_ := aI (sB HB hb) (aI (aM hbox) (aI (gE HB hg) (gE HB hg))); clear HB; obtain ⟨HB, BK114, GW114, GE114⟩ := n_; (try clear hb hbox hg)) | ((with_reducible refine gate_dst (N := 12) rfl ?_); refine V_bytes 5 rfl (N' := 12) rfl 9 39 _ rfl a0 rfl Try.underlying9 Try.underlying39 Try.underlying5 (by first | (with_reducible assumption) | assumption | exact dT) ?_; intro v116 w12 ho13 hb hg_ hnew_; clear hg_ hnew_; (first | rw [← Ny115.out] at ho13 | (simp only [Int.reduceToNat] at ho13; rw [← Ny115.out] at ho13)); have n_ := aI (aM (Kd.V_lower (Kd.V_mono (ok' := fun k_ => k_ ≠ gb114) ho13 (fun k_ hk_ => (Kd.freshB (g := gb114) (o := .cells #[.int .i64 0, .int .i64 0, .int .i64 0, .int .i64 0, .slice none 0 0] 33 (0, 0)) (kP BK114) k_ hk_))) (zB HB))) (aI (kB BK114 hb) (sB HB hb)); clear BK114 HB; obtain ⟨HO117, BK114, HB⟩ := n_; (try clear hb ho13); obtain ⟨Ao14, co14, eo14⟩ := Kd.V_slice HO117.out; subst eo14; have p118 : 0 ≤ (0 : Int) := (by omega); have q118 : 0 < (y115.length : Int) := dT; obtain ⟨ad118, e118, hx118_0⟩ := Kd.at_int (Kd.V_reads' HO117.out).2.2 0 p118 q118; cases e118; have qi118 : (0 < y115.length) = True := eq_true (by omega); (try rw [show ((0 : Int)).toNat = 0 from rfl] at hx118_0); (try rw [Addr.add_zero'] at hx118_0); replace p118 := eq_true p118; replace q118 := eq_true q118) | ((with_reducible refine gate_dst (N := 5) rfl ?_); refine bE 5 #[.int .i64 0, .int .i64 0, .int .i64 0, .int .i64 0, .slice none 0 0] 33 ?_; intro gb119 hg w15 hbox hb; have n_ := aI (aM (Kd.V_below (Kd.V_elderB (by (with_reducible repeat (first | apply Kd.V_alloc | apply Kd.V_drewN | apply Kd.V_drew)); exact HO117.out) gb119 (Nat.le_of_eq hg.symm)) hb)) (aI (kB BK114 hb) (aI (sB HB hb) (aI (aM hbox) (aI (gE HB hg) (aI (gE HB hg) (aI (nL BK114 hg) (nG BK114 hg))))))); clear HO117 BK114 HB; obtain ⟨HO117, BK114, HB, BK119, GW119, GE119, NB114_119, NB119_114⟩ := n_; (try clear hb hbox hg); have hnb16 := NB119_114.out; have hnc16 := NB114_119.out; have hcz17_0 := cZ0 BK119; have hcz17_1 := cZ1 BK119; have hcz17_2 : w15.cell? ⟨gb119, 2, none⟩ = some (.int .i64 0) := (blk_cell BK119.out 2).trans rfl; have hcz17_3 : w15.cell? ⟨gb119, 3, none⟩ = some (.int .i64 0) := (blk_cell BK119.out 3).trans rfl; have hcz17_4 : w15.cell? ⟨gb119, 4, none⟩ = some (.slice none 0 0) := (blk_cell BK119.out 4).trans rfl; have hfz17_0 := fZ BK119 0; have hfz17_1 := fZ BK119 1; have hfz17_2 := fZ BK119 2; have hfz17_3 := fZ BK119 3; have hfz17_4 := fZ BK119 4; have hcz18_0 := cZ0 BK114; have hcz18_1 := cZ1 BK114; have hcz18_2 : w15.cell? ⟨gb114, 2, none⟩ = some (.int .i64 0) := (blk_cell BK114.out 2).trans rfl; have hcz18_3 : w15.cell? ⟨gb114, 3, none⟩ = some (.int .i64 0) := (blk_cell BK114.out 3).trans rfl; have hcz18_4 : w15.cell? ⟨gb114, 4, none⟩ = some (.slice none 0 0) := (blk_cell BK114.out 4).trans rfl; have hfz18_0 := fZ BK114 0; have hfz18_1 := fZ BK114 1; have hfz18_2 := fZ BK114 2; have hfz18_3 := fZ BK114 3; have hfz18_4 := fZ BK114 4))
    refine bodyPost_ret (results_ct rfl _ _ gb114 33 #[.int .i64 (wrap64 (rd y115 0)), .int .i64 0, .int .i64 0, .int .i64 0, .slice none 0 0] (0, 0) _ rfl (by (with_reducible repeat (first | apply bN | apply bD | apply bA)); refine blk_put (cs := #[.int .i64 (wrap64 (rd y115 0)), .int .i64 0, .int .i64 0, .int .i64 0, .slice none 0 0]) ?_ 4 _ rfl; (with_reducible repeat (first | apply bN | apply bD | apply bA)); refine blk_put (cs := #[.int .i64 (wrap64 (rd y115 0)), .int .i64 0, .int .i64 0, .int .i64 0, .slice none 0 0]) ?_ 3 _ rfl; (with_reducible repeat (first | apply bN | apply bD | apply bA)); refine blk_put (cs := #[.int .i64 (wrap64 (rd y115 0)), .int .i64 0, .int .i64 0, .int .i64 0, .slice none 0 0]) ?_ 2 _ rfl; (with_reducible repeat (first | apply bN | apply bD | apply bA)); refine blk_put (cs := #[.int .i64 (wrap64 (rd y115 0)), .int .i64 0, .int .i64 0, .int .i64 0, .slice none 0 0]) ?_ 1 _ rfl; (with_reducible repeat (first | apply bN | apply bD | apply bA)); refine blk_put (cs := #[.int .i64 0, .int .i64 0, .int .i64 0, .int .i64 0, .slice none 0 0]) ?_ 0 _ rfl; (with_reducible repeat (first | apply bN | apply bD | apply bA)); refine blk_far ?_ NB114_119.out _; (with_reducible repeat (first | apply bN | apply bD | apply bA)); refine blk_far ?_ NB114_119.out _; (with_reducible repeat (first | apply bN | apply bD | apply bA)); refine blk_far ?_ NB114_119.out _; (with_reducible repeat (first | apply bN | apply bD | apply bA)); refine blk_far ?_ NB114_119.out _; (with_reducible repeat (first | apply bN | apply bD | apply bA)); refine blk_far ?_ NB114_119.out _; (with_reducible repeat (first | apply bN | apply bD | apply bA)); exact BK114.out) Try.underlying33 rfl (by kernel_rfl)) rfl ?_
    exact ⟨_, eW, by first | exact Kd.R_nil _ _ _ _ _ | exact Kd.N_nil _ _ _ _ _ | exact Kd.V_nil _ _ _ _ _ | exact Kd.Q_nil _ _ _ _ _ | exact Kd.S_nil _ _ _ _ _, bB⟩
   rw [if_neg c10] at H
   have c10b0 : ((wrap64 (rd y115 0)) == 0) = false := beq_eq_false_iff_ne.mpr c10
   have c10b1 : ((wrap64 (rd y115 0)) != 0) = true := bne_iff_ne.mpr c10
   obtain ⟨y120, hy120⟩ : ∃ y_ : List Int, y_ = (([] : List Int)) := ⟨_, rfl⟩
   replace H : (spec_NodeOf.l0 k y115 y120 1 (wrap64 (rd y115 0)) 0 0 0) = some (r1, r2, r3, r4, r5, r6) := bQ hy120 H
   have Ny120 := aM hy120
   clear hy120
   have H' := aM H
   clear H
   go_enter Try.func11, Try.ntmps11
   go_wp2_with (first | ((with_reducible refine gate_dst (N := 2) rfl ?_); refine bE 2 #[.int .i64 0, .int .i64 0, .int .i64 0, .int .i64 0, .slice none 0 0] 33 ?_; intro gb114 hg w19 hbox hb; have n_ := aI (sB HB hb) (aI (aM hbox) (aI (gE HB hg) (gE HB hg))); clear HB; obtain ⟨HB, BK114, GW114, GE114⟩ := n_; (try clear hb hbox hg)) | ((with_reducible refine gate_dst (N := 12) rfl ?_); refine V_bytes 5 rfl (N' := 12) rfl 9 39 _ rfl a0 rfl Try.underlying9 Try.underlying39 Try.underlying5 (by first | (with_reducible assumption) | assumption | exact dT) ?_; intro v116 w20 ho21 hb hg_ hnew_; clear hg_ hnew_; (first | rw [← Ny115.out] at ho21 | (simp only [Int.reduceToNat] at ho21; rw [← Ny115.out] at ho21)); have n_ := aI (aM (Kd.V_lower (Kd.V_mono (ok' := fun k_ => k_ ≠ gb114) ho21 (fun k_ hk_ => (Kd.freshB (g := gb114) (o := .cells #[.int .i64 0, .int .i64 0, .int .i64 0, .int .i64 0, .slice none 0 0] 33 (0, 0)) (kP BK114) k_ hk_))) (zB HB))) (aI (kB BK114 hb) (sB HB hb)); clear BK114 HB; obtain ⟨HO117, BK114, HB⟩ := n_; (try clear hb ho21); obtain ⟨Ao22, co22, eo22⟩ := Kd.V_slice HO117.out; subst eo22; have p118 : 0 ≤ (0 : Int) := (by omega); have q118 : 0 < (y115.length : Int) := dT; obtain ⟨ad118, e118, hx118_0⟩ := Kd.at_int (Kd.V_reads' HO117.out).2.2 0 p118 q118; cases e118; have qi118 : (0 < y115.length) = True := eq_true (by omega); (try rw [show ((0 : Int)).toNat = 0 from rfl] at hx118_0); (try rw [Addr.add_zero'] at hx118_0); replace p118 := eq_true p118; replace q118 := eq_true q118) | ((with_reducible refine gate_dst (N := 5) rfl ?_); refine bE 5 #[.int .i64 0, .int .i64 0, .int .i64 0, .int .i64 0, .slice none 0 0] 33 ?_; intro gb119 hg w23 hbox hb; have n_ := aI (aM (Kd.V_below (Kd.V_elderB (by (with_reducible repeat (first | apply Kd.V_alloc | apply Kd.V_drewN | apply Kd.V_drew)); exact HO117.out) gb119 (Nat.le_of_eq hg.symm)) hb)) (aI (kB BK114 hb) (aI (sB HB hb) (aI (aM hbox) (aI (gE HB hg) (aI (gE HB hg) (aI (nL BK114 hg) (nG BK114 hg))))))); clear HO117 BK114 HB; obtain ⟨HO117, BK114, HB, BK119, GW119, GE119, NB114_119, NB119_114⟩ := n_; (try clear hb hbox hg); have hnb24 := NB119_114.out; have hnc24 := NB114_119.out; have hcz25_0 := cZ0 BK119; have hcz25_1 := cZ1 BK119; have hcz25_2 : w23.cell? ⟨gb119, 2, none⟩ = some (.int .i64 0) := (blk_cell BK119.out 2).trans rfl; have hcz25_3 : w23.cell? ⟨gb119, 3, none⟩ = some (.int .i64 0) := (blk_cell BK119.out 3).trans rfl; have hcz25_4 : w23.cell? ⟨gb119, 4, none⟩ = some (.slice none 0 0) := (blk_cell BK119.out 4).trans rfl; have hfz25_0 := fZ BK119 0; have hfz25_1 := fZ BK119 1; have hfz25_2 := fZ BK119 2; have hfz25_3 := fZ BK119 3; have hfz25_4 := fZ BK119 4) | ((with_reducible refine gate_dst (N := 29) rfl ?_); refine Kd.R_lit (Kd.int .i64) _ 3 ?hg (N := 29) ?hd (xs := ([] : List Int)) (inner := []) (ok := fun _ => True) (okp := fun _ => True) ?hr ?hp (fun _ hk => hk) trivial (Below.refl _ _) (Nat.le_refl _) (by simp) ?_; (case hd => rfl); (case hg => rfl); (case hr => first | (go_simp; done) | (go_simp; rfl)); (case hp => exact (Reps.none _ _)); intro v121 w26 ho27 hb hg_ hnew_; clear hg_ hnew_; (first | rw [← Ny120.out] at ho27 | (simp only [Int.reduceToNat] at ho27; rw [← Ny120.out] at ho27)); have n_ := aI (aM (Kd.V_elder' (by (with_reducible repeat (first | apply Kd.V_alloc | apply Kd.V_drewN | apply Kd.V_drew)); exact (Kd.V_mono (Kd.V_far (p := ⟨gb119, 4, none⟩) (Kd.V_far (p := ⟨gb119, 3, none⟩) (Kd.V_far (p := ⟨gb119, 2, none⟩) (Kd.V_far (p := ⟨gb119, 1, none⟩) (Kd.V_far (p := ⟨gb119, 0, none⟩) (Kd.V_mono HO117.out (fun k_ hk => (⟨hk, hk.2⟩ : _ ∧ k_ ≠ gb119))) (fun _ hk => hk.2) (.int .i64 (wrap64 (rd y115 0)))) (fun _ hk => hk.2) (.int .i64 0)) (fun _ hk => hk.2) (.int .i64 0)) (fun _ hk => hk.2) (.int .i64 0)) (fun _ hk => hk.2) (.slice none 0 0)) (fun _ h_ => h_.1))) (Kd.R_base ho27) hb)) (aI (lR HB ho27) (aI (kB BK114 hb) (aI (aM (blk_below (g := gb119) (o := .cells #[.int .i64 (wrap64 (rd y115 0)), .int .i64 0, .int .i64 0, .int .i64 0, .slice none 0 0] 33 (0, 0)) (by (with_reducible repeat (first | apply bN | apply bD | apply bA)); refine blk_put (cs := #[.int .i64 (wrap64 (rd y115 0)), .int .i64 0, .int .i64 0, .int .i64 0, .slice none 0 0]) ?_ 4 _ rfl; (with_reducible repeat (first | apply bN | apply bD | apply bA)); refine blk_put (cs := #[.int .i64 (wrap64 (rd y115 0)), .int .i64 0, .int .i64 0, .int .i64 0, .slice none 0 0]) ?_ 3 _ rfl; (with_reducible repeat (first | apply bN | apply bD | apply bA)); refine blk_put (cs := #[.int .i64 (wrap64 (rd y115 0)), .int .i64 0, .int .i64 0, .int .i64 0, .slice none 0 0]) ?_ 2 _ rfl; (with_reducible repeat (first | apply bN | apply bD | apply bA)); refine blk_put (cs := #[.int .i64 (wrap64 (rd y115 0)), .int .i64 0, .int .i64 0, .int .i64 0, .slice none 0 0]) ?_ 1 _ rfl; (with_reducible repeat (first | apply bN | apply bD | apply bA)); refine blk_put (cs := #[.int .i64 0, .int .i64 0, .int .i64 0, .int .i64 0, .slice none 0 0]) ?_ 0 _ rfl; (with_reducible repeat (first | apply bN | apply bD | apply bA)); exact BK119.out) hb)) (sB HB hb)))); clear HO117 BK114 BK119 HB; obtain ⟨HO117, HO122, BK114, BK119, HB⟩ := n_; (try clear hb ho27)))
   go_loopg [6, 7] k (fun kq v6 v7 w' => ∃ (x6_1 : List Int) (x7_1 : Int) (x115000_1 : Int) (x115001_1 : Int) (x115002_1 : Int) (x115003_1 : Int), v7 = .int .i64 x7_1 ∧ Aside0 (spec_NodeOf.l0 kq y115 x6_1 x7_1 (wrap64 (rd y115 0)) 0 0 0 = some (r1, r2, r3, r4, r5, r6)) ∧ Aside0 (kq ≤ k) ∧ Aside0 (Kd.V (Kd.int .u8) 5 w' w.heap.size (fun k_ => some k_ ≠ (v6 : Value).ownBlock ∧ k_ ≠ gb114 ∧ k_ ≠ gb119) (.slice (some ad118) y115.length co22) y115) ∧ Aside0 (Kd.R (Kd.int .i64) 3 w' w.heap.size (fun _ => True) v6 x6_1) ∧ Aside0 (w'.heap[gb114]? = some (.cells #[.int .i64 x115000_1, .int .i64 x115001_1, .int .i64 x115002_1, .int .i64 x115003_1, (.slice none 0 0)] 33 (0, 0))) ∧ Aside0 (w'.heap[gb119]? = some (.cells #[.int .i64 (wrap64 (rd y115 0)), .int .i64 0, .int .i64 0, .int .i64 0, (.slice none 0 0)] 33 (0, 0))) ∧ Aside0 (Below w.heap.size w w'))
   case atStart => exact ⟨(y120), (1), (0), (0), (0), (0), (by first | rfl | (simp; done) | (simp [*]; done) | (simp; exact (by intro l_; cases l_ <;> rfl : ∀ l_ : List UInt8, l_.isEmpty = !(l_ != [])) _)), H', ⟨Nat.le_refl _⟩, ⟨by (with_reducible repeat (first | apply Kd.V_alloc | apply Kd.V_drewN | apply Kd.V_drew)); exact Kd.V_mono HO117.out (fun _ hk => ⟨hk.2, ⟨hk.1.1, hk.1.2⟩⟩)⟩, ⟨rP HO122.out⟩, ⟨kP BK114⟩, ⟨kP BK119⟩, ⟨bB⟩⟩
   case round =>
    clear H'
    try clear c1
    try clear p1
    try clear q1
    try clear hx1
    try clear qi1
    try clear c2
    try clear c2b0
    try clear c2b1
    try clear c2b2
    try clear p2
    try clear c3
    try clear c3b0
    try clear c3b1
    try clear c3b2
    try clear p6
    try clear c9
    try clear c9b0
    try clear c9b1
    try clear c10
    try clear c10b0
    try clear c10b1
    try clear c11
    try clear p11
    try clear q11
    try clear hx11
    try clear qi11
    try clear c16
    try clear c24
    try clear hcz17_0
    try clear hcz17_1
    try clear hcz17_2
    try clear hcz17_3
    try clear hcz17_4
    try clear hcz18_0
    try clear hcz18_1
    try clear hcz18_2
    try clear hcz18_3
    try clear hcz18_4
    try clear hcz25_0
    try clear hcz25_1
    try clear hcz25_2
    try clear hcz25_3
    try clear hcz25_4
    try clear hcz8_0
    try clear hcz8_1
    try clear hcz8_2
    try clear hcz8_3
    try clear hcz8_4
    try clear hfz17_0
    try clear hfz17_1
    try clear hfz17_2
    try clear hfz17_3
    try clear hfz17_4
    try clear hfz18_0
    try clear hfz18_1
    try clear hfz18_2
    try clear hfz18_3
    try clear hfz18_4
    try clear hfz25_0
    try clear hfz25_1
    try clear hfz25_2
    try clear hfz25_3
    try clear hfz25_4
    try clear hfz8_0
    try clear hfz8_1
    try clear hfz8_2
    try clear hfz8_3
    try clear hfz8_4
    try clear hx118_0
    try clear p118
    try clear q118
    obtain ⟨x6_1, x7_1, x115000_1, x115001_1, x115002_1, x115003_1, rfl, HA, HK1, HO_4, HO_6, BK114, BK119, HB⟩ := hrel
    cases gk with
    | zero => exact absurd HA.out (by simp [spec_NodeOf.l0])
    | succ k1 =>
     have H := HA.out
     clear HA
     simp only [spec_NodeOf.l0] at H
     by_cases c28 : x7_1 < (y115.length : Int)
     ·rw [if_pos c28] at H
      have c28b0 : decide (x7_1 < (y115.length : Int)) = true := decide_eq_true c28
      clear c28
      replace H := Option.bind_eq_some_iff.mp H
      obtain ⟨⟨t123, t124, t125⟩, A290, H⟩ := H
      try dsimp only at H
      have A29 := aM A290
      clear A290
      by_cases c30 : t125 = true
      ·subst c30
       rw [if_pos rfl] at H
       by_cases c31 : x6_1.length < 17592186044416
       ·rw [if_pos c31] at H
        have LMc31 := aM c31
        clear c31
        obtain ⟨y126, hy126⟩ : ∃ y_ : List Int, y_ = (x6_1 ++ [t123]) := ⟨_, rfl⟩
        replace H : (spec_NodeOf.l0 k1 y115 y126 t124 (wrap64 (rd y115 0)) 0 0 0) = some (r1, r2, r3, r4, r5, r6) := bQ hy126 H
        have Ny126 := aM hy126
        clear hy126
        have H' := aM H
        clear H
        go_wp2_with (first | ((with_reducible refine gate_callee (f := 31) rfl ?_); refine gL (some 37) Try.func31 #[.slice (some ad118) y115.length co22, .int .i64 x7_1] ?_; (with_reducible refine (spec_GetNum.calls k1 _ _ y115 x7_1 t123 t124 true _ ?side1 ?side2 A29.out).mono ?_); (case side1 => repeat (first | exact (Kd.V_reads' HO_4.out).2.2 | (with_reducible refine Kd.C_alloc ?_ _) | (with_reducible refine Kd.C_drewN ?_ _) | (with_reducible refine Kd.C_drew ?_))); (case side2 => exact (Kd.V_reads' HO_4.out).2.1); rintro e w' ⟨rfl, ⟨nd, rfl⟩⟩; refine ⟨_, rfl, ?_⟩) | ((with_reducible refine gate_builtin (b := .append) (xs := #[.tmp 44, .tmp 46]) rfl ?_); at_builtin; refine Kd.R_append (Kd.int .i64) (w0 := w) w.heap.size rfl (.tmp 44) (.tmp 46) 31 3 (.int .i64 0) 8 rfl Try.underlying31 info3 rfl (by decide) (by omega) u6 x6_1 t123 [.int .i64 t123] (fun _ => True) (fun _ => False) rfl rfl ?aP (fun _ hk => hk.elim) ?aF ?aO ?aB ?aS ?aL ?_; (case aP => exact rfl); (case aB => exact bB); (case aF => exact (fun _ _ => trivial)); (case aO => exact (rP HO_6.out)); (case aS => exact (zB HB)); (case aL => have := LMc31.out; omega); intro v127 w32 ho hb hg hat; rw [← Ny126.out] at ho; have n_ := aI (aM (Kd.V_afterv (ok := (fun k_ => k_ ≠ gb114 ∧ k_ ≠ gb119)) (by (with_reducible repeat (first | apply Kd.V_alloc | apply Kd.V_drewN | apply Kd.V_drew)); exact Kd.V_mono HO_4.out (fun _ hk => ⟨⟨hk.2.1, hk.2.2⟩, hk.1⟩)) hg hat)) (aI (aM (blk_grown (g := gb114) (o := .cells #[.int .i64 x115000_1, .int .i64 x115001_1, .int .i64 x115002_1, .int .i64 x115003_1, .slice none 0 0] 33 (0, 0)) (kP BK114) hg (Kd.R_ne HO_6.out BK114.out (by decide)))) (aI (aM (blk_grown (g := gb119) (o := .cells #[.int .i64 (wrap64 (rd y115 0)), .int .i64 0, .int .i64 0, .int .i64 0, .slice none 0 0] 33 (0, 0)) (kP BK119) hg (Kd.R_ne HO_6.out BK119.out (by decide)))) (aI (aM (hb)) (aM (ho))))); clear HO_4 BK114 BK119 HB HO_6; obtain ⟨HO_4, BK114, BK119, HB, HO128⟩ := n_; (try clear ho hb hg hat)))
        go_roundg k1
        case measure => have := HK1.out; omega
        case rel => exact ⟨(y126), (t124), (x115000_1), (x115001_1), (x115002_1), (x115003_1), (by first | rfl | (simp; done) | (simp [*]; done) | (simp; exact (by intro l_; cases l_ <;> rfl : ∀ l_ : List UInt8, l_.isEmpty = !(l_ != [])) _)), H', ⟨by have := HK1.out; omega⟩, ⟨by (with_reducible repeat (first | apply Kd.V_alloc | apply Kd.V_drewN | apply Kd.V_drew)); exact Kd.V_mono HO_4.out (fun _ hk => ⟨hk.2, ⟨hk.1.1, hk.1.2⟩⟩)⟩, ⟨rP HO128.out⟩, ⟨kP BK114⟩, ⟨kP BK119⟩, ⟨bB⟩⟩
       ·rw [if_neg c31] at H
        exact absurd H (by simp)
      ·replace c30 := Bool.eq_false_iff.mpr c30
       subst c30
       rw [if_neg (show ¬ (false = true) by decide)] at H
       simp only [Option.some.injEq, Prod.mk.injEq] at H
       obtain ⟨rfl, rfl, rfl, rfl, rfl, rfl⟩ := H
       go_wp2_with (first | ((with_reducible refine gate_callee (f := 31) rfl ?_); refine gL (some 37) Try.func31 #[.slice (some ad118) y115.length co22, .int .i64 x7_1] ?_; (with_reducible refine (spec_GetNum.calls k1 _ _ y115 x7_1 t123 t124 false _ ?side1 ?side2 A29.out).mono ?_); (case side1 => repeat (first | exact (Kd.V_reads' HO_4.out).2.2 | (with_reducible refine Kd.C_alloc ?_ _) | (with_reducible refine Kd.C_drewN ?_ _) | (with_reducible refine Kd.C_drew ?_))); (case side2 => exact (Kd.V_reads' HO_4.out).2.1); rintro e w' ⟨rfl, ⟨nd, rfl⟩⟩; refine ⟨_, rfl, ?_⟩; (try (rw [drewN_self wr]; generalize hq_ : World.drewN wr _ = wr; have n0_ : Aside0 (Kd.V (Kd.int .u8) 5 wr w.heap.size (fun k_ => some k_ ≠ (u6 : Value).ownBlock ∧ k_ ≠ gb114 ∧ k_ ≠ gb119) (.slice (some ad118) y115.length co22) y115) := ⟨by rw [← hq_]; exact (by (with_reducible repeat (first | apply Kd.V_alloc | apply Kd.V_drewN | apply Kd.V_drew)); exact HO_4.out)⟩; have n1_ : Aside0 (Kd.R (Kd.int .i64) 3 wr w.heap.size (fun _ => True) u6 x6_1) := ⟨by rw [← hq_]; exact (rP HO_6.out)⟩; have n2_ : Aside0 (wr.heap[gb114]? = some (.cells #[.int .i64 x115000_1, .int .i64 x115001_1, .int .i64 x115002_1, .int .i64 x115003_1, .slice none 0 0] 33 (0, 0))) := ⟨by rw [← hq_]; exact (kP BK114)⟩; have n3_ : Aside0 (wr.heap[gb119]? = some (.cells #[.int .i64 (wrap64 (rd y115 0)), .int .i64 0, .int .i64 0, .int .i64 0, .slice none 0 0] 33 (0, 0))) := ⟨by rw [← hq_]; exact (kP BK119)⟩; have n4_ : Aside0 (Below w.heap.size w wr) := ⟨by rw [← hq_]; exact bB⟩; clear HO_4 HO_6 BK114 BK119 HB hq_; have HO_4 := n0_; have HO_6 := n1_; have BK114 := n2_; have BK119 := n3_; have HB := n4_; clear n0_ n1_ n2_ n3_ n4_)); have hnb33 := NB114_119.out; have hnc33 := NB119_114.out; have hcz34_0 := cZ0 BK114; have hcz34_1 := cZ1 BK114; have hcz34_2 : wr.cell? ⟨gb114, 2, none⟩ = some (.int .i64 x115002_1) := (blk_cell BK114.out 2).trans rfl; have hcz34_3 : wr.cell? ⟨gb114, 3, none⟩ = some (.int .i64 x115003_1) := (blk_cell BK114.out 3).trans rfl; have hcz34_4 : wr.cell? ⟨gb114, 4, none⟩ = some (.slice none 0 0) := (blk_cell BK114.out 4).trans rfl; have hfz34_0 := fZ BK114 0; have hfz34_1 := fZ BK114 1; have hfz34_2 := fZ BK114 2; have hfz34_3 := fZ BK114 3; have hfz34_4 := fZ BK114 4))
       refine bodyPost_ret (results_ct rfl _ _ gb114 33 #[.int .i64 0, .int .i64 0, .int .i64 0, .int .i64 0, .slice none 0 0] (0, 0) _ rfl (by (with_reducible repeat (first | apply bN | apply bD | apply bA)); refine blk_put (cs := #[.int .i64 0, .int .i64 0, .int .i64 0, .int .i64 0, .slice none 0 0]) ?_ 4 _ rfl; (with_reducible repeat (first | apply bN | apply bD | apply bA)); refine blk_put (cs := #[.int .i64 0, .int .i64 0, .int .i64 0, .int .i64 x115003_1, .slice none 0 0]) ?_ 3 _ rfl; (with_reducible repeat (first | apply bN | apply bD | apply bA)); refine blk_put (cs := #[.int .i64 0, .int .i64 0, .int .i64 x115002_1, .int .i64 x115003_1, .slice none 0 0]) ?_ 2 _ rfl; (with_reducible repeat (first | apply bN | apply bD | apply bA)); refine blk_put (cs := #[.int .i64 0, .int .i64 x115001_1, .int .i64 x115002_1, .int .i64 x115003_1, .slice none 0 0]) ?_ 1 _ rfl; (with_reducible repeat (first | apply bN | apply bD | apply bA)); refine blk_put (cs := #[.int .i64 x115000_1, .int .i64 x115001_1, .int .i64 x115002_1, .int .i64 x115003_1, .slice none 0 0]) ?_ 0 _ rfl; (with_reducible repeat (first | apply bN | apply bD | apply bA)); exact BK114.out) Try.underlying33 rfl (by kernel_rfl)) rfl ?_
       exact ⟨_, eW, by first | exact Kd.R_nil _ _ _ _ _ | exact Kd.N_nil _ _ _ _ _ | exact Kd.V_nil _ _ _ _ _ | exact Kd.Q_nil _ _ _ _ _ | exact Kd.S_nil _ _ _ _ _, bB⟩
     ·rw [if_neg c28] at H
      have c28b0 : decide (x7_1 < (y115.length : Int)) = false := decide_eq_false c28
      clear c28
      by_cases c35 : (x6_1.length : Int) < 3
      ·rw [if_pos c35] at H
       have c35b0 : decide ((x6_1.length : Int) < 3) = true := decide_eq_true c35
       have c35b1 : decide (x6_1.length < 3) = true := decide_eq_true (by omega)
       clear c35
       simp only [Option.some.injEq, Prod.mk.injEq] at H
       obtain ⟨rfl, rfl, rfl, rfl, rfl, rfl⟩ := H
       obtain ⟨Ao36, co36, eo36⟩ := Kd.R_slice HO_6.out
       subst eo36
       have hnb37 := NB114_119.out
       have hnc37 := NB119_114.out
       have hcz38_0 := cZ0 BK114
       have hcz38_1 := cZ1 BK114
       have hcz38_2 : wr.cell? ⟨gb114, 2, none⟩ = some (.int .i64 x115002_1) := (blk_cell BK114.out 2).trans rfl
       have hcz38_3 : wr.cell? ⟨gb114, 3, none⟩ = some (.int .i64 x115003_1) := (blk_cell BK114.out 3).trans rfl
       have hcz38_4 : wr.cell? ⟨gb114, 4, none⟩ = some (.slice none 0 0) := (blk_cell BK114.out 4).trans rfl
       have hfz38_0 := fZ BK114 0
       have hfz38_1 := fZ BK114 1
       have hfz38_2 := fZ BK114 2
       have hfz38_3 := fZ BK114 3
       have hfz38_4 := fZ BK114 4
       go_wp2
       refine bodyPost_ret (results_ct rfl _ _ gb114 33 #[.int .i64 0, .int .i64 0, .int .i64 0, .int .i64 0, .slice none 0 0] (0, 0) _ rfl (by (with_reducible repeat (first | apply bN | apply bD | apply bA)); refine blk_put (cs := #[.int .i64 0, .int .i64 0, .int .i64 0, .int .i64 0, .slice none 0 0]) ?_ 4 _ rfl; (with_reducible repeat (first | apply bN | apply bD | apply bA)); refine blk_put (cs := #[.int .i64 0, .int .i64 0, .int .i64 0, .int .i64 x115003_1, .slice none 0 0]) ?_ 3 _ rfl; (with_reducible repeat (first | apply bN | apply bD | apply bA)); refine blk_put (cs := #[.int .i64 0, .int .i64 0, .int .i64 x115002_1, .int .i64 x115003_1, .slice none 0 0]) ?_ 2 _ rfl; (with_reducible repeat (first | apply bN | apply bD | apply bA)); refine blk_put (cs := #[.int .i64 0, .int .i64 x115001_1, .int .i64 x115002_1, .int .i64 x115003_1, .slice none 0 0]) ?_ 1 _ rfl; (with_reducible repeat (first | apply bN | apply bD | apply bA)); refine blk_put (cs := #[.int .i64 x115000_1, .int .i64 x115001_1, .int .i64 x115002_1, .int .i64 x115003_1, .slice none 0 0]) ?_ 0 _ rfl; (with_reducible repeat (first | apply bN | apply bD | apply bA)); exact BK114.out) Try.underlying33 rfl (by kernel_rfl)) rfl ?_
       exact ⟨_, eW, by first | exact Kd.R_nil _ _ _ _ _ | exact Kd.N_nil _ _ _ _ _ | exact Kd.V_nil _ _ _ _ _ | exact Kd.Q_nil _ _ _ _ _ | exact Kd.S_nil _ _ _ _ _, bB⟩
      ·rw [if_neg c35] at H
       have c35b0 : decide ((x6_1.length : Int) < 3) = false := decide_eq_false c35
       have c35b1 : decide (x6_1.length < 3) = false := decide_eq_false (by omega)
       clear c35
       by_cases c39 : 0 < (x6_1.length : Int)
       ·rw [if_pos c39] at H
        have c39b0 : decide (0 < (x6_1.length : Int)) = true := decide_eq_true c39
        have c39b1 : decide (0 < x6_1.length) = true := decide_eq_true (by omega)
        clear c39
        by_cases c40 : 1 < (x6_1.length : Int)
        ·rw [if_pos c40] at H
         have c40b0 : decide (1 < (x6_1.length : Int)) = true := decide_eq_true c40
         have c40b1 : decide (1 < x6_1.length) = true := decide_eq_true (by omega)
         clear c40
         by_cases c41 : 2 < (x6_1.length : Int)
         ·rw [if_pos c41] at H
          have c41b0 : decide (2 < (x6_1.length : Int)) = true := decide_eq_true c41
          have c41b1 : decide (2 < x6_1.length) = true := decide_eq_true (by omega)
          clear c41
          obtain ⟨y132, hy132⟩ : ∃ y_ : List Int, y_ = (([] : List Int)) := ⟨_, rfl⟩
          replace H : (if 3 ≤ (x6_1.length : Int) then ((some (x6_1.drop 3 : List Int)).bind fun y135 => (if y132.length + y135.length < 17592186044416 then ((some (y132 ++ y135 : List Int)).bind fun y139 => ((spec_NodeOk.f k1 (wrap64 (rd y115 0)) (rd x6_1 0) (rd x6_1 1) (rd x6_1 2) y139).bind fun t142 => (if t142 = true then (some ((wrap64 (rd y115 0)), rd x6_1 0, rd x6_1 1, rd x6_1 2, y139, true)) else (some (0, 0, 0, 0, ([] : List Int), false))))) else (none))) else (none)) = some (r1, r2, r3, r4, r5, r6) := bQ hy132 H
          have Ny132 := aM hy132
          clear hy132
          by_cases c42 : 3 ≤ (x6_1.length : Int)
          ·rw [if_pos c42] at H
           have c42b0 := eq_true c42
           have c42b1 : decide (3 ≤ (x6_1.length : Int)) = true := decide_eq_true c42
           clear c42
           obtain ⟨y135, hy135⟩ : ∃ y_ : List Int, y_ = (x6_1.drop 3) := ⟨_, rfl⟩
           replace H : (if y132.length + y135.length < 17592186044416 then ((some (y132 ++ y135 : List Int)).bind fun y139 => ((spec_NodeOk.f k1 (wrap64 (rd y115 0)) (rd x6_1 0) (rd x6_1 1) (rd x6_1 2) y139).bind fun t142 => (if t142 = true then (some ((wrap64 (rd y115 0)), rd x6_1 0, rd x6_1 1, rd x6_1 2, y139, true)) else (some (0, 0, 0, 0, ([] : List Int), false))))) else (none)) = some (r1, r2, r3, r4, r5, r6) := bQ hy135 H
           have Ny135 := aM hy135
           clear hy135
           by_cases c43 : y132.length + y135.length < 17592186044416
           ·rw [if_pos c43] at H
            have LMc43 := aM c43
            clear c43
            obtain ⟨y139, hy139⟩ : ∃ y_ : List Int, y_ = (y132 ++ y135) := ⟨_, rfl⟩
            replace H : ((spec_NodeOk.f k1 (wrap64 (rd y115 0)) (rd x6_1 0) (rd x6_1 1) (rd x6_1 2) y139).bind fun t142 => (if t142 = true then (some ((wrap64 (rd y115 0)), rd x6_1 0, rd x6_1 1, rd x6_1 2, y139, true)) else (some (0, 0, 0, 0, ([] : List Int), false)))) = some (r1, r2, r3, r4, r5, r6) := bQ hy139 H
            have Ny139 := aM hy139
            clear hy139
            replace H := Option.bind_eq_some_iff.mp H
            obtain ⟨t142, A440, H⟩ := H
            try dsimp only at H
            have A44 := aM A440
            clear A440
            by_cases c45 : t142 = true
            ·subst c45
             rw [if_pos rfl] at H
             simp only [Option.some.injEq, Prod.mk.injEq] at H
             obtain ⟨rfl, rfl, rfl, rfl, rfl, rfl⟩ := H
             obtain ⟨Ao46, co46, eo46⟩ := Kd.R_slice HO_6.out
             subst eo46
             have p129 : 0 ≤ (0 : Int) := (by omega)
             have q129 : 0 < (x6_1.length : Int) := dT
             obtain ⟨ad129, e129, hx129_0⟩ := Kd.at_int (Kd.R_reads' HO_6.out).2.2 0 p129 q129
             cases e129
             have qi129 : (0 < x6_1.length) = True := eq_true (by omega)
             (try rw [show ((0 : Int)).toNat = 0 from rfl] at hx129_0)
             (try rw [Addr.add_zero'] at hx129_0)
             replace p129 := eq_true p129
             replace q129 := eq_true q129
             have hnb47 := NB119_114.out
             have hnc47 := NB114_119.out
             have hcz48_0 : wr.cell? ⟨gb119, 0, none⟩ = some (.int .i64 (wrap64 (rd y115 0))) := (blk_cell BK119.out 0).trans rfl
             have hcz48_1 := cZ1 BK119
             have hcz48_2 : wr.cell? ⟨gb119, 2, none⟩ = some (.int .i64 0) := (blk_cell BK119.out 2).trans rfl
             have hcz48_3 : wr.cell? ⟨gb119, 3, none⟩ = some (.int .i64 0) := (blk_cell BK119.out 3).trans rfl
             have hcz48_4 : wr.cell? ⟨gb119, 4, none⟩ = some (.slice none 0 0) := (blk_cell BK119.out 4).trans rfl
             have hfz48_0 := fZ BK119 0
             have hfz48_1 := fZ BK119 1
             have hfz48_2 := fZ BK119 2
             have hfz48_3 := fZ BK119 3
             have hfz48_4 := fZ BK119 4
             have p130 : 0 ≤ (1 : Int) := (by omega)
             have q130 : 1 < (x6_1.length : Int) := dT
             obtain ⟨ad130, e130, hx130_0⟩ := Kd.at_int (Kd.R_reads' HO_6.out).2.2 1 p130 q130
             obtain rfl : ad129 = ad130 := (by injection e130)
             (try simp only [show (1 : Int).toNat = 1 from rfl, Nat.reduceMul, Nat.reduceEqDiff, Go.Addr.add, ↓reduceIte] at hx130_0)
             have qi130 : (1 < x6_1.length) = True := eq_true (by omega)
             (try rw [show ((1 : Int)).toNat = 1 from rfl] at hx130_0)
             have hn130_0 : ad129.block ≠ gb119 := Kd.own_blk (Kd.R_ne HO_6.out BK119.out (by decide))
             replace hx130_0 := (cell_far (p := ⟨gb119, 1, none⟩) (by first | (rw [add_block]; exact hn130_0) | (show (Addr.add _ _).block ≠ _; rw [add_block]; exact hn130_0) | exact hn130_0) (.int .i64 (rd x6_1 0))).trans hx130_0
             clear hn130_0
             replace p130 := eq_true p130
             replace q130 := eq_true q130
             have p131 : 0 ≤ (2 : Int) := (by omega)
             have q131 : 2 < (x6_1.length : Int) := dT
             obtain ⟨ad131, e131, hx131_0⟩ := Kd.at_int (Kd.R_reads' HO_6.out).2.2 2 p131 q131
             obtain rfl : ad129 = ad131 := (by injection e131)
             (try simp only [show (2 : Int).toNat = 2 from rfl, Nat.reduceMul, Nat.reduceEqDiff, Go.Addr.add, ↓reduceIte] at hx131_0)
             have qi131 : (2 < x6_1.length) = True := eq_true (by omega)
             (try rw [show ((2 : Int)).toNat = 2 from rfl] at hx131_0)
             have hn131_0 : ad129.block ≠ gb119 := Kd.own_blk (Kd.R_ne HO_6.out BK119.out (by decide))
             have hn131_1 : ad129.block ≠ gb119 := Kd.own_blk (Kd.R_ne HO_6.out BK119.out (by decide))
             replace hx131_0 := (cell_far (p := ⟨gb119, 1, none⟩) (by first | (rw [add_block]; exact hn131_0) | (show (Addr.add _ _).block ≠ _; rw [add_block]; exact hn131_0) | exact hn131_0) (.int .i64 (rd x6_1 0))).trans hx131_0
             replace hx131_0 := (cell_far (p := ⟨gb119, 2, none⟩) (by first | (rw [add_block]; exact hn131_1) | (show (Addr.add _ _).block ≠ _; rw [add_block]; exact hn131_1) | exact hn131_1) (.int .i64 (rd x6_1 1))).trans hx131_0
             clear hn131_0
             clear hn131_1
             replace p131 := eq_true p131
             replace q131 := eq_true q131
             go_wp2_with (first | ((with_reducible refine gate_dst (N := 65) rfl ?_); refine Kd.R_lit (Kd.int .i64) _ 3 ?hg (N := 65) ?hd (xs := ([] : List Int)) (inner := []) (ok := fun _ => True) (okp := fun _ => True) ?hr ?hp (fun _ hk => hk) trivial (Below.refl _ _) (Nat.le_refl _) (by simp) ?_; (case hd => rfl); (case hg => rfl); (case hr => first | (go_simp; done) | (go_simp; rfl)); (case hp => exact (Reps.none _ _)); intro v133 w49 ho50 hb hg_ hnew_; clear hg_ hnew_; (first | rw [← Ny132.out] at ho50 | (simp only [Int.reduceToNat] at ho50; rw [← Ny132.out] at ho50)); have n_ := aI (aM (Kd.V_elder' (by (with_reducible repeat (first | apply Kd.V_alloc | apply Kd.V_drewN | apply Kd.V_drew)); exact (Kd.V_mono (Kd.V_far (p := ⟨gb119, 3, none⟩) (Kd.V_far (p := ⟨gb119, 2, none⟩) (Kd.V_far (p := ⟨gb119, 1, none⟩) (Kd.V_mono HO_4.out (fun k_ hk => (⟨hk, hk.2.2⟩ : _ ∧ k_ ≠ gb119))) (fun _ hk => hk.2) (.int .i64 (rd x6_1 0))) (fun _ hk => hk.2) (.int .i64 (rd x6_1 1))) (fun _ hk => hk.2) (.int .i64 (rd x6_1 2))) (fun _ h_ => h_.1))) (Kd.R_base ho50) hb)) (aI (aM (Kd.R_elder' (rP (Kd.R_mono (Kd.R_far (p := ⟨gb119, 3, none⟩) (Kd.R_far (p := ⟨gb119, 2, none⟩) (Kd.R_far (p := ⟨gb119, 1, none⟩) (Kd.R_types HO_6.out BK119.out (by decide)) (fun _ hk => hk.2) (.int .i64 (rd x6_1 0))) (fun _ hk => hk.2) (.int .i64 (rd x6_1 1))) (fun _ hk => hk.2) (.int .i64 (rd x6_1 2))) (fun _ h_ => h_.1))) (Kd.R_base ho50) hb)) (aI (aM (Kd.R_lower (Kd.R_new' ho50 (Kd.R_lt (rP (Kd.R_mono (Kd.R_far (p := ⟨gb119, 3, none⟩) (Kd.R_far (p := ⟨gb119, 2, none⟩) (Kd.R_far (p := ⟨gb119, 1, none⟩) (Kd.R_types HO_6.out BK119.out (by decide)) (fun _ hk => hk.2) (.int .i64 (rd x6_1 0))) (fun _ hk => hk.2) (.int .i64 (rd x6_1 1))) (fun _ hk => hk.2) (.int .i64 (rd x6_1 2))) (fun _ h_ => h_.1))))) (zB HB))) (aI (kB BK114 hb) (aI (aM (blk_below (g := gb119) (o := .cells #[.int .i64 (wrap64 (rd y115 0)), .int .i64 (rd x6_1 0), .int .i64 (rd x6_1 1), .int .i64 (rd x6_1 2), .slice none 0 0] 33 (0, 0)) (by (with_reducible repeat (first | apply bN | apply bD | apply bA)); refine blk_put (cs := #[.int .i64 (wrap64 (rd y115 0)), .int .i64 (rd x6_1 0), .int .i64 (rd x6_1 1), .int .i64 0, .slice none 0 0]) ?_ 3 _ rfl; (with_reducible repeat (first | apply bN | apply bD | apply bA)); refine blk_put (cs := #[.int .i64 (wrap64 (rd y115 0)), .int .i64 (rd x6_1 0), .int .i64 0, .int .i64 0, .slice none 0 0]) ?_ 2 _ rfl; (with_reducible repeat (first | apply bN | apply bD | apply bA)); refine blk_put (cs := #[.int .i64 (wrap64 (rd y115 0)), .int .i64 0, .int .i64 0, .int .i64 0, .slice none 0 0]) ?_ 1 _ rfl; (with_reducible repeat (first | apply bN | apply bD | apply bA)); exact BK119.out) hb)) (sB HB hb))))); clear HO_4 HO_6 BK114 BK119 HB; obtain ⟨HO_4, HO_6, HO134, BK114, BK119, HB⟩ := n_; (try clear hb ho50); have q51 : (3 : Int) ≤ ((x6_1.length : Int) : Int) := dT; obtain ⟨i051, hi051, _, hsz51, _⟩ := info_parts info3; have hroom51 : x6_1.length ≤ co46 := (Kd.R_reads' HO_6.out).2.1; have hC51 : Kd.C (Kd.int .i64) _ (some ad129) x6_1.length x6_1 := (Kd.R_reads' HO_6.out).2.2; have hcut51 := cut_from (P := Try.prog) 31 3 .i64 Try.underlying31 hi051 1 hsz51 (some ad129) x6_1.length co46 3 (by omega) q51; have hr51 := Kd.C_drop (m := (3 : Int).toNat) (c := co46) hC51 (by omega) hroom51; obtain ⟨A51, hA51⟩ : ∃ A1, A1 = (if co46 = (3 : Int).toNat then (some ad129) else ((some ad129) : Option Addr).map (·.add ((3 : Int).toNat * 1))) := ⟨_, rfl⟩; obtain ⟨c51, hc51⟩ : ∃ c1, c1 = co46 - (3 : Int).toNat := ⟨_, rfl⟩; have hy51 : y135.length = x6_1.length - (3 : Int).toNat := (by rw [Ny135.out, List.length_drop] <;> omega); rw [show (x6_1).drop (3 : Int).toNat = y135 from Ny135.out.symm] at hr51; replace hr51 : Kd.C (Kd.int .i64) _ A51 y135.length y135 := (by rw [hA51]; exact hr51); rw [← hy51, ← hA51, ← hc51] at hcut51; have HR138 := aM hr51; have HC138 := aM (show y135.length ≤ c51 from by rw [hy51, hc51]; exact Nat.sub_le_sub_right hroom51 _); clear hr51 hC51 hroom51 hi051 hsz51 hc51; have KY51 := aM hy51; have KA51 := aM hA51; clear hy51 hA51; have KL51 := aM (show 3 ≤ x6_1.length from by omega); replace q51 := eq_true q51) | ((with_reducible refine gate_builtin (b := .append) (xs := #[.tmp 65, .tmp 67]) rfl ?_); at_builtin; refine Kd.R_append_rows (Kd.int .i64) (w0 := w) w.heap.size rfl (.tmp 65) (.tmp 67) 31 3 (.int .i64 0) 8 rfl Try.underlying31 info3 rfl (by decide) (by omega) v133 y132 y135 _ _ _ (fun k_ => some k_ ≠ (.slice (some ad129) x6_1.length co46 : Value).ownBlock) (fun _ => False) rfl rfl ?aO ?aR (fun _ _ h => h) (fun _ h => h.elim) ?aF ?aB ?aS ?aL ?_; (case aR => repeat (first | exact (by repeat (first | (with_reducible exact HR138.out) | (with_reducible refine Kd.C_alloc ?_ _) | (with_reducible refine Kd.C_drewN ?_ _) | (with_reducible refine Kd.C_drew ?_) | exact HR138.out)) | (with_reducible refine Kd.C_alloc ?_ _) | (with_reducible refine Kd.C_drewN ?_ _) | (with_reducible refine Kd.C_drew ?_))); (case aB => exact bB); (case aF => exact (fun k_ hk => Kd.fresh' (rL HO_6) k_ hk)); (case aO => exact (rP (Kd.R_mono HO134.out (fun _ hk => hk.2)))); (case aS => exact (zB HB)); (case aL => have := LMc43.out; omega); intro v140 w52 ho hb hg hat; rw [← Ny139.out] at ho; have n_ := aI (aM (Kd.V_afterv (ok := (fun k_ => some k_ ≠ (.slice (some ad129) x6_1.length co46 : Value).ownBlock ∧ k_ ≠ gb114 ∧ k_ ≠ gb119)) (by (with_reducible repeat (first | apply Kd.V_alloc | apply Kd.V_drewN | apply Kd.V_drew)); exact HO_4.out) hg hat)) (aI (aM (Kd.R_after (ok := (fun _ => True)) (rP HO_6.out) hg hat)) (aI (aM (blk_grown (g := gb114) (o := .cells #[.int .i64 x115000_1, .int .i64 x115001_1, .int .i64 x115002_1, .int .i64 x115003_1, .slice none 0 0] 33 (0, 0)) (kP BK114) hg (Kd.R_ne HO134.out BK114.out (by decide)))) (aI (aM (blk_grown (g := gb119) (o := .cells #[.int .i64 (wrap64 (rd y115 0)), .int .i64 (rd x6_1 0), .int .i64 (rd x6_1 1), .int .i64 (rd x6_1 2), .slice none 0 0] 33 (0, 0)) (kP BK119) hg (Kd.R_ne HO134.out BK119.out (by decide)))) (aI (aM (hb)) (aI (aM ((show Kd.C (Kd.int .i64) w52 A51 y135.length y135 from by rw [Ny135.out, KA51.out]; exact Kd.C_drop (m := 3) (c := co46) ((Kd.R_reads' (Kd.R_after (ok := (fun _ => True)) (rP HO_6.out) hg hat)).2.2) KL51.out ((Kd.R_reads' (Kd.R_after (ok := (fun _ => True)) (rP HO_6.out) hg hat)).2.1)))) (aM (ho))))))); clear HO_4 HO_6 BK114 BK119 HB HR138 HO134; obtain ⟨HO_4, HO_6, BK114, BK119, HB, HR138, HO141⟩ := n_; (try clear ho hb hg hat); obtain ⟨Ao53, co53, eo53⟩ := Kd.R_slice HO141.out; subst eo53; have hcz54_0 : w52.cell? ⟨gb119, 0, none⟩ = some (.int .i64 (wrap64 (rd y115 0))) := (blk_cell BK119.out 0).trans rfl; have hcz54_1 := cZ1 BK119; have hcz54_2 : w52.cell? ⟨gb119, 2, none⟩ = some (.int .i64 (rd x6_1 1)) := (blk_cell BK119.out 2).trans rfl; have hcz54_3 : w52.cell? ⟨gb119, 3, none⟩ = some (.int .i64 (rd x6_1 2)) := (blk_cell BK119.out 3).trans rfl; have hcz54_4 : w52.cell? ⟨gb119, 4, none⟩ = some (.slice none 0 0) := (blk_cell BK119.out 4).trans rfl; have hfz54_0 := fZ BK119 0; have hfz54_1 := fZ BK119 1; have hfz54_2 := fZ BK119 2; have hfz54_3 := fZ BK119 3; have hfz54_4 := fZ BK119 4) | ((with_reducible refine gate_callee (f := 20) rfl ?_); refine gL (some 71) Try.func20 #[.agg #[.int .i64 (wrap64 (rd y115 0)), .int .i64 (rd x6_1 0), .int .i64 (rd x6_1 1), .int .i64 (rd x6_1 2), .slice Ao53 y139.length co53]] ?_; (with_reducible refine (spec_NodeOk.calls k1 (wrap64 (rd y115 0)) (rd x6_1 0) (rd x6_1 1) (rd x6_1 2) _ _ y139 true _ ?side1 ?side2 A44.out).mono ?_); (case side1 => refine (Kd.R_reads' (e := 3) (base := w.heap.size) (ok := fun k_ => some k_ ≠ (.slice (some ad129) x6_1.length co46 : Value).ownBlock) (n := y139.length) (c := co53) ?_).2.2; exact (rP (Kd.R_mono (Kd.R_far (p := ⟨gb119, 4, none⟩) (Kd.R_types HO141.out BK119.out (by decide)) (fun _ hk => hk.2) (.slice Ao53 y139.length co53)) (fun _ h_ => h_.1)))); (case side2 => exact (Kd.R_reads' HO141.out).2.1); rintro e w55 ⟨rfl, hb⟩; refine ⟨_, rfl, ?_⟩; have n_ := aI (aM (Kd.V_below (by (with_reducible repeat (first | apply Kd.V_alloc | apply Kd.V_drewN | apply Kd.V_drew)); exact (Kd.V_mono (Kd.V_far (p := ⟨gb119, 4, none⟩) (Kd.V_mono HO_4.out (fun k_ hk => (⟨hk, hk.1.2.2⟩ : _ ∧ k_ ≠ gb119))) (fun _ hk => hk.2) (.slice Ao53 y139.length co53)) (fun _ h_ => h_.1))) hb)) (aI (aM (Kd.R_below (rP (Kd.R_mono (Kd.R_far (p := ⟨gb119, 4, none⟩) (Kd.R_types HO_6.out BK119.out (by decide)) (fun _ hk => hk.2) (.slice Ao53 y139.length co53)) (fun _ h_ => h_.1))) hb)) (aI (aM (Kd.R_below (rP (Kd.R_mono (Kd.R_far (p := ⟨gb119, 4, none⟩) (Kd.R_types HO141.out BK119.out (by decide)) (fun _ hk => hk.2) (.slice Ao53 y139.length co53)) (fun _ h_ => h_.1))) hb)) (aI (kB BK114 hb) (aI (aM (blk_below (g := gb119) (o := .cells #[.int .i64 (wrap64 (rd y115 0)), .int .i64 (rd x6_1 0), .int .i64 (rd x6_1 1), .int .i64 (rd x6_1 2), .slice Ao53 y139.length co53] 33 (0, 0)) (by (with_reducible repeat (first | apply bN | apply bD | apply bA)); refine blk_put (cs := #[.int .i64 (wrap64 (rd y115 0)), .int .i64 (rd x6_1 0), .int .i64 (rd x6_1 1), .int .i64 (rd x6_1 2), .slice none 0 0]) ?_ 4 _ rfl; (with_reducible repeat (first | apply bN | apply bD | apply bA)); exact BK119.out) hb)) (aI (aM (Kd.C_below (show Kd.C (Kd.int .i64) _ A51 y135.length y135 from by rw [Ny135.out, KA51.out]; exact Kd.C_drop (m := 3) (c := co46) ((Kd.R_reads' (rP (Kd.R_mono (Kd.R_far (p := ⟨gb119, 4, none⟩) (Kd.R_types HO_6.out BK119.out (by decide)) (fun _ hk => hk.2) (.slice Ao53 y139.length co53)) (fun _ h_ => h_.1)))).2.2) KL51.out ((Kd.R_reads' (rP (Kd.R_mono (Kd.R_far (p := ⟨gb119, 4, none⟩) (Kd.R_types HO_6.out BK119.out (by decide)) (fun _ hk => hk.2) (.slice Ao53 y139.length co53)) (fun _ h_ => h_.1)))).2.1)) hb)) (sB HB hb)))))); clear HO_4 HO_6 HO141 BK114 BK119 HR138 HB; obtain ⟨HO_4, HO_6, HO141, BK114, BK119, HR138, HB⟩ := n_; (try clear hb); have hcz56_0 : w55.cell? ⟨gb119, 0, none⟩ = some (.int .i64 (wrap64 (rd y115 0))) := (blk_cell BK119.out 0).trans rfl; have hcz56_1 := cZ1 BK119; have hcz56_2 : w55.cell? ⟨gb119, 2, none⟩ = some (.int .i64 (rd x6_1 1)) := (blk_cell BK119.out 2).trans rfl; have hcz56_3 : w55.cell? ⟨gb119, 3, none⟩ = some (.int .i64 (rd x6_1 2)) := (blk_cell BK119.out 3).trans rfl; have hcz56_4 : w55.cell? ⟨gb119, 4, none⟩ = some (.slice Ao53 y139.length co53) := (blk_cell BK119.out 4).trans rfl; have hfz56_0 := fZ BK119 0; have hfz56_1 := fZ BK119 1; have hfz56_2 := fZ BK119 2; have hfz56_3 := fZ BK119 3; have hfz56_4 := fZ BK119 4; have hcz57_0 := cZ0 BK114; have hcz57_1 := cZ1 BK114; have hcz57_2 : w55.cell? ⟨gb114, 2, none⟩ = some (.int .i64 x115002_1) := (blk_cell BK114.out 2).trans rfl; have hcz57_3 : w55.cell? ⟨gb114, 3, none⟩ = some (.int .i64 x115003_1) := (blk_cell BK114.out 3).trans rfl; have hcz57_4 : w55.cell? ⟨gb114, 4, none⟩ = some (.slice none 0 0) := (blk_cell BK114.out 4).trans rfl; have hfz57_0 := fZ BK114 0; have hfz57_1 := fZ BK114 1; have hfz57_2 := fZ BK114 2; have hfz57_3 := fZ BK114 3; have hfz57_4 := fZ BK114 4))
             refine bodyPost_ret (results_ct rfl _ _ gb114 33 #[.int .i64 (wrap64 (rd y115 0)), .int .i64 (rd x6_1 0), .int .i64 (rd x6_1 1), .int .i64 (rd x6_1 2), .slice Ao53 y139.length co53] (0, 0) _ rfl (by (with_reducible repeat (first | apply bN | apply bD | apply bA)); refine blk_put (cs := #[.int .i64 (wrap64 (rd y115 0)), .int .i64 (rd x6_1 0), .int .i64 (rd x6_1 1), .int .i64 (rd x6_1 2), .slice none 0 0]) ?_ 4 _ rfl; (with_reducible repeat (first | apply bN | apply bD | apply bA)); refine blk_put (cs := #[.int .i64 (wrap64 (rd y115 0)), .int .i64 (rd x6_1 0), .int .i64 (rd x6_1 1), .int .i64 x115003_1, .slice none 0 0]) ?_ 3 _ rfl; (with_reducible repeat (first | apply bN | apply bD | apply bA)); refine blk_put (cs := #[.int .i64 (wrap64 (rd y115 0)), .int .i64 (rd x6_1 0), .int .i64 x115002_1, .int .i64 x115003_1, .slice none 0 0]) ?_ 2 _ rfl; (with_reducible repeat (first | apply bN | apply bD | apply bA)); refine blk_put (cs := #[.int .i64 (wrap64 (rd y115 0)), .int .i64 x115001_1, .int .i64 x115002_1, .int .i64 x115003_1, .slice none 0 0]) ?_ 1 _ rfl; (with_reducible repeat (first | apply bN | apply bD | apply bA)); refine blk_put (cs := #[.int .i64 x115000_1, .int .i64 x115001_1, .int .i64 x115002_1, .int .i64 x115003_1, .slice none 0 0]) ?_ 0 _ rfl; (with_reducible repeat (first | apply bN | apply bD | apply bA)); exact BK114.out) Try.underlying33 rfl (by kernel_rfl)) rfl ?_
             exact ⟨_, eW, by (with_reducible repeat (first | apply Kd.R_alloc | apply Kd.R_drewN | apply Kd.R_drew)); exact Kd.R_mono (Kd.R_far (p := ⟨gb114, 4, none⟩) (Kd.R_far (p := ⟨gb114, 3, none⟩) (Kd.R_far (p := ⟨gb114, 2, none⟩) (Kd.R_far (p := ⟨gb114, 1, none⟩) (Kd.R_far (p := ⟨gb114, 0, none⟩) (Kd.R_types HO141.out BK114.out (by decide)) (fun _ hk => hk.2) (.int .i64 (wrap64 (rd y115 0)))) (fun _ hk => hk.2) (.int .i64 (rd x6_1 0))) (fun _ hk => hk.2) (.int .i64 (rd x6_1 1))) (fun _ hk => hk.2) (.int .i64 (rd x6_1 2))) (fun _ hk => hk.2) (.slice Ao53 y139.length co53)) (fun _ hk => trivial), bB⟩
            ·replace c45 := Bool.eq_false_iff.mpr c45
             subst c45
             rw [if_neg (show ¬ (false = true) by decide)] at H
             simp only [Option.some.injEq, Prod.mk.injEq] at H
             obtain ⟨rfl, rfl, rfl, rfl, rfl, rfl⟩ := H
             obtain ⟨Ao58, co58, eo58⟩ := Kd.R_slice HO_6.out
             subst eo58
             have p129 : 0 ≤ (0 : Int) := (by omega)
             have q129 : 0 < (x6_1.length : Int) := dT
             obtain ⟨ad129, e129, hx129_0⟩ := Kd.at_int (Kd.R_reads' HO_6.out).2.2 0 p129 q129
             cases e129
             have qi129 : (0 < x6_1.length) = True := eq_true (by omega)
             (try rw [show ((0 : Int)).toNat = 0 from rfl] at hx129_0)
             (try rw [Addr.add_zero'] at hx129_0)
             replace p129 := eq_true p129
             replace q129 := eq_true q129
             have hnb59 := NB119_114.out
             have hnc59 := NB114_119.out
             have hcz60_0 : wr.cell? ⟨gb119, 0, none⟩ = some (.int .i64 (wrap64 (rd y115 0))) := (blk_cell BK119.out 0).trans rfl
             have hcz60_1 := cZ1 BK119
             have hcz60_2 : wr.cell? ⟨gb119, 2, none⟩ = some (.int .i64 0) := (blk_cell BK119.out 2).trans rfl
             have hcz60_3 : wr.cell? ⟨gb119, 3, none⟩ = some (.int .i64 0) := (blk_cell BK119.out 3).trans rfl
             have hcz60_4 : wr.cell? ⟨gb119, 4, none⟩ = some (.slice none 0 0) := (blk_cell BK119.out 4).trans rfl
             have hfz60_0 := fZ BK119 0
             have hfz60_1 := fZ BK119 1
             have hfz60_2 := fZ BK119 2
             have hfz60_3 := fZ BK119 3
             have hfz60_4 := fZ BK119 4
             have p130 : 0 ≤ (1 : Int) := (by omega)
             have q130 : 1 < (x6_1.length : Int) := dT
             obtain ⟨ad130, e130, hx130_0⟩ := Kd.at_int (Kd.R_reads' HO_6.out).2.2 1 p130 q130
             obtain rfl : ad129 = ad130 := (by injection e130)
             (try simp only [show (1 : Int).toNat = 1 from rfl, Nat.reduceMul, Nat.reduceEqDiff, Go.Addr.add, ↓reduceIte] at hx130_0)
             have qi130 : (1 < x6_1.length) = True := eq_true (by omega)
             (try rw [show ((1 : Int)).toNat = 1 from rfl] at hx130_0)
             have hn130_0 : ad129.block ≠ gb119 := Kd.own_blk (Kd.R_ne HO_6.out BK119.out (by decide))
             replace hx130_0 := (cell_far (p := ⟨gb119, 1, none⟩) (by first | (rw [add_block]; exact hn130_0) | (show (Addr.add _ _).block ≠ _; rw [add_block]; exact hn130_0) | exact hn130_0) (.int .i64 (rd x6_1 0))).trans hx130_0
             clear hn130_0
             replace p130 := eq_true p130
             replace q130 := eq_true q130
             have p131 : 0 ≤ (2 : Int) := (by omega)
             have q131 : 2 < (x6_1.length : Int) := dT
             obtain ⟨ad131, e131, hx131_0⟩ := Kd.at_int (Kd.R_reads' HO_6.out).2.2 2 p131 q131
             obtain rfl : ad129 = ad131 := (by injection e131)
             (try simp only [show (2 : Int).toNat = 2 from rfl, Nat.reduceMul, Nat.reduceEqDiff, Go.Addr.add, ↓reduceIte] at hx131_0)
             have qi131 : (2 < x6_1.length) = True := eq_true (by omega)
             (try rw [show ((2 : Int)).toNat = 2 from rfl] at hx131_0)
             have hn131_0 : ad129.block ≠ gb119 := Kd.own_blk (Kd.R_ne HO_6.out BK119.out (by decide))
             have hn131_1 : ad129.block ≠ gb119 := Kd.own_blk (Kd.R_ne HO_6.out BK119.out (by decide))
             replace hx131_0 := (cell_far (p := ⟨gb119, 1, none⟩) (by first | (rw [add_block]; exact hn131_0) | (show (Addr.add _ _).block ≠ _; rw [add_block]; exact hn131_0) | exact hn131_0) (.int .i64 (rd x6_1 0))).trans hx131_0
             replace hx131_0 := (cell_far (p := ⟨gb119, 2, none⟩) (by first | (rw [add_block]; exact hn131_1) | (show (Addr.add _ _).block ≠ _; rw [add_block]; exact hn131_1) | exact hn131_1) (.int .i64 (rd x6_1 1))).trans hx131_0
             clear hn131_0
             clear hn131_1
             replace p131 := eq_true p131
             replace q131 := eq_true q131
             go_wp2_with (first | ((with_reducible refine gate_dst (N := 65) rfl ?_); refine Kd.R_lit (Kd.int .i64) _ 3 ?hg (N := 65) ?hd (xs := ([] : List Int)) (inner := []) (ok := fun _ => True) (okp := fun _ => True) ?hr ?hp (fun _ hk => hk) trivial (Below.refl _ _) (Nat.le_refl _) (by simp) ?_; (case hd => rfl); (case hg => rfl); (case hr => first | (go_simp; done) | (go_simp; rfl)); (case hp => exact (Reps.none _ _)); intro v133 w61 ho62 hb hg_ hnew_; clear hg_ hnew_; (first | rw [← Ny132.out] at ho62 | (simp only [Int.reduceToNat] at ho62; rw [← Ny132.out] at ho62)); have n_ := aI (aM (Kd.V_elder' (by (with_reducible repeat (first | apply Kd.V_alloc | apply Kd.V_drewN | apply Kd.V_drew)); exact (Kd.V_mono (Kd.V_far (p := ⟨gb119, 3, none⟩) (Kd.V_far (p := ⟨gb119, 2, none⟩) (Kd.V_far (p := ⟨gb119, 1, none⟩) (Kd.V_mono HO_4.out (fun k_ hk => (⟨hk, hk.2.2⟩ : _ ∧ k_ ≠ gb119))) (fun _ hk => hk.2) (.int .i64 (rd x6_1 0))) (fun _ hk => hk.2) (.int .i64 (rd x6_1 1))) (fun _ hk => hk.2) (.int .i64 (rd x6_1 2))) (fun _ h_ => h_.1))) (Kd.R_base ho62) hb)) (aI (aM (Kd.R_elder' (rP (Kd.R_mono (Kd.R_far (p := ⟨gb119, 3, none⟩) (Kd.R_far (p := ⟨gb119, 2, none⟩) (Kd.R_far (p := ⟨gb119, 1, none⟩) (Kd.R_types HO_6.out BK119.out (by decide)) (fun _ hk => hk.2) (.int .i64 (rd x6_1 0))) (fun _ hk => hk.2) (.int .i64 (rd x6_1 1))) (fun _ hk => hk.2) (.int .i64 (rd x6_1 2))) (fun _ h_ => h_.1))) (Kd.R_base ho62) hb)) (aI (aM (Kd.R_lower (Kd.R_new' ho62 (Kd.R_lt (rP (Kd.R_mono (Kd.R_far (p := ⟨gb119, 3, none⟩) (Kd.R_far (p := ⟨gb119, 2, none⟩) (Kd.R_far (p := ⟨gb119, 1, none⟩) (Kd.R_types HO_6.out BK119.out (by decide)) (fun _ hk => hk.2) (.int .i64 (rd x6_1 0))) (fun _ hk => hk.2) (.int .i64 (rd x6_1 1))) (fun _ hk => hk.2) (.int .i64 (rd x6_1 2))) (fun _ h_ => h_.1))))) (zB HB))) (aI (kB BK114 hb) (aI (aM (blk_below (g := gb119) (o := .cells #[.int .i64 (wrap64 (rd y115 0)), .int .i64 (rd x6_1 0), .int .i64 (rd x6_1 1), .int .i64 (rd x6_1 2), .slice none 0 0] 33 (0, 0)) (by (with_reducible repeat (first | apply bN | apply bD | apply bA)); refine blk_put (cs := #[.int .i64 (wrap64 (rd y115 0)), .int .i64 (rd x6_1 0), .int .i64 (rd x6_1 1), .int .i64 0, .slice none 0 0]) ?_ 3 _ rfl; (with_reducible repeat (first | apply bN | apply bD | apply bA)); refine blk_put (cs := #[.int .i64 (wrap64 (rd y115 0)), .int .i64 (rd x6_1 0), .int .i64 0, .int .i64 0, .slice none 0 0]) ?_ 2 _ rfl; (with_reducible repeat (first | apply bN | apply bD | apply bA)); refine blk_put (cs := #[.int .i64 (wrap64 (rd y115 0)), .int .i64 0, .int .i64 0, .int .i64 0, .slice none 0 0]) ?_ 1 _ rfl; (with_reducible repeat (first | apply bN | apply bD | apply bA)); exact BK119.out) hb)) (sB HB hb))))); clear HO_4 HO_6 BK114 BK119 HB; obtain ⟨HO_4, HO_6, HO134, BK114, BK119, HB⟩ := n_; (try clear hb ho62); have q63 : (3 : Int) ≤ ((x6_1.length : Int) : Int) := dT; obtain ⟨i063, hi063, _, hsz63, _⟩ := info_parts info3; have hroom63 : x6_1.length ≤ co58 := (Kd.R_reads' HO_6.out).2.1; have hC63 : Kd.C (Kd.int .i64) _ (some ad129) x6_1.length x6_1 := (Kd.R_reads' HO_6.out).2.2; have hcut63 := cut_from (P := Try.prog) 31 3 .i64 Try.underlying31 hi063 1 hsz63 (some ad129) x6_1.length co58 3 (by omega) q63; have hr63 := Kd.C_drop (m := (3 : Int).toNat) (c := co58) hC63 (by omega) hroom63; obtain ⟨A63, hA63⟩ : ∃ A1, A1 = (if co58 = (3 : Int).toNat then (some ad129) else ((some ad129) : Option Addr).map (·.add ((3 : Int).toNat * 1))) := ⟨_, rfl⟩; obtain ⟨c63, hc63⟩ : ∃ c1, c1 = co58 - (3 : Int).toNat := ⟨_, rfl⟩; have hy63 : y135.length = x6_1.length - (3 : Int).toNat := (by rw [Ny135.out, List.length_drop] <;> omega); rw [show (x6_1).drop (3 : Int).toNat = y135 from Ny135.out.symm] at hr63; replace hr63 : Kd.C (Kd.int .i64) _ A63 y135.length y135 := (by rw [hA63]; exact hr63); rw [← hy63, ← hA63, ← hc63] at hcut63; have HR138 := aM hr63; have HC138 := aM (show y135.length ≤ c63 from by rw [hy63, hc63]; exact Nat.sub_le_sub_right hroom63 _); clear hr63 hC63 hroom63 hi063 hsz63 hc63; have KY63 := aM hy63; have KA63 := aM hA63; clear hy63 hA63; have KL63 := aM (show 3 ≤ x6_1.length from by omega); replace q63 := eq_true q63) | ((with_reducible refine gate_builtin (b := .append) (xs := #[.tmp 65, .tmp 67]) rfl ?_); at_builtin; refine Kd.R_append_rows (Kd.int .i64) (w0 := w) w.heap.size rfl (.tmp 65) (.tmp 67) 31 3 (.int .i64 0) 8 rfl Try.underlying31 info3 rfl (by decide) (by omega) v133 y132 y135 _ _ _ (fun k_ => some k_ ≠ (.slice (some ad129) x6_1.length co58 : Value).ownBlock) (fun _ => False) rfl rfl ?aO ?aR (fun _ _ h => h) (fun _ h => h.elim) ?aF ?aB ?aS ?aL ?_; (case aR => repeat (first | exact (by repeat (first | (with_reducible exact HR138.out) | (with_reducible refine Kd.C_alloc ?_ _) | (with_reducible refine Kd.C_drewN ?_ _) | (with_reducible refine Kd.C_drew ?_) | exact HR138.out)) | (with_reducible refine Kd.C_alloc ?_ _) | (with_reducible refine Kd.C_drewN ?_ _) | (with_reducible refine Kd.C_drew ?_))); (case aB => exact bB); (case aF => exact (fun k_ hk => Kd.fresh' (rL HO_6) k_ hk)); (case aO => exact (rP (Kd.R_mono HO134.out (fun _ hk => hk.2)))); (case aS => exact (zB HB)); (case aL => have := LMc43.out; omega); intro v140 w64 ho hb hg hat; rw [← Ny139.out] at ho; have n_ := aI (aM (Kd.V_afterv (ok := (fun k_ => some k_ ≠ (.slice (some ad129) x6_1.length co58 : Value).ownBlock ∧ k_ ≠ gb114 ∧ k_ ≠ gb119)) (by (with_reducible repeat (first | apply Kd.V_alloc | apply Kd.V_drewN | apply Kd.V_drew)); exact HO_4.out) hg hat)) (aI (aM (Kd.R_after (ok := (fun _ => True)) (rP HO_6.out) hg hat)) (aI (aM (blk_grown (g := gb114) (o := .cells #[.int .i64 x115000_1, .int .i64 x115001_1, .int .i64 x115002_1, .int .i64 x115003_1, .slice none 0 0] 33 (0, 0)) (kP BK114) hg (Kd.R_ne HO134.out BK114.out (by decide)))) (aI (aM (blk_grown (g := gb119) (o := .cells #[.int .i64 (wrap64 (rd y115 0)), .int .i64 (rd x6_1 0), .int .i64 (rd x6_1 1), .int .i64 (rd x6_1 2), .slice none 0 0] 33 (0, 0)) (kP BK119) hg (Kd.R_ne HO134.out BK119.out (by decide)))) (aI (aM (hb)) (aI (aM ((show Kd.C (Kd.int .i64) w64 A63 y135.length y135 from by rw [Ny135.out, KA63.out]; exact Kd.C_drop (m := 3) (c := co58) ((Kd.R_reads' (Kd.R_after (ok := (fun _ => True)) (rP HO_6.out) hg hat)).2.2) KL63.out ((Kd.R_reads' (Kd.R_after (ok := (fun _ => True)) (rP HO_6.out) hg hat)).2.1)))) (aM (ho))))))); clear HO_4 HO_6 BK114 BK119 HB HR138 HO134; obtain ⟨HO_4, HO_6, BK114, BK119, HB, HR138, HO141⟩ := n_; (try clear ho hb hg hat); obtain ⟨Ao65, co65, eo65⟩ := Kd.R_slice HO141.out; subst eo65; have hcz66_0 : w64.cell? ⟨gb119, 0, none⟩ = some (.int .i64 (wrap64 (rd y115 0))) := (blk_cell BK119.out 0).trans rfl; have hcz66_1 := cZ1 BK119; have hcz66_2 : w64.cell? ⟨gb119, 2, none⟩ = some (.int .i64 (rd x6_1 1)) := (blk_cell BK119.out 2).trans rfl; have hcz66_3 : w64.cell? ⟨gb119, 3, none⟩ = some (.int .i64 (rd x6_1 2)) := (blk_cell BK119.out 3).trans rfl; have hcz66_4 : w64.cell? ⟨gb119, 4, none⟩ = some (.slice none 0 0) := (blk_cell BK119.out 4).trans rfl; have hfz66_0 := fZ BK119 0; have hfz66_1 := fZ BK119 1; have hfz66_2 := fZ BK119 2; have hfz66_3 := fZ BK119 3; have hfz66_4 := fZ BK119 4) | ((with_reducible refine gate_callee (f := 20) rfl ?_); refine gL (some 71) Try.func20 #[.agg #[.int .i64 (wrap64 (rd y115 0)), .int .i64 (rd x6_1 0), .int .i64 (rd x6_1 1), .int .i64 (rd x6_1 2), .slice Ao65 y139.length co65]] ?_; (with_reducible refine (spec_NodeOk.calls k1 (wrap64 (rd y115 0)) (rd x6_1 0) (rd x6_1 1) (rd x6_1 2) _ _ y139 false _ ?side1 ?side2 A44.out).mono ?_); (case side1 => refine (Kd.R_reads' (e := 3) (base := w.heap.size) (ok := fun k_ => some k_ ≠ (.slice (some ad129) x6_1.length co58 : Value).ownBlock) (n := y139.length) (c := co65) ?_).2.2; exact (rP (Kd.R_mono (Kd.R_far (p := ⟨gb119, 4, none⟩) (Kd.R_types HO141.out BK119.out (by decide)) (fun _ hk => hk.2) (.slice Ao65 y139.length co65)) (fun _ h_ => h_.1)))); (case side2 => exact (Kd.R_reads' HO141.out).2.1); rintro e w67 ⟨rfl, hb⟩; refine ⟨_, rfl, ?_⟩; have n_ := aI (aM (Kd.V_below (by (with_reducible repeat (first | apply Kd.V_alloc | apply Kd.V_drewN | apply Kd.V_drew)); exact (Kd.V_mono (Kd.V_far (p := ⟨gb119, 4, none⟩) (Kd.V_mono HO_4.out (fun k_ hk => (⟨hk, hk.1.2.2⟩ : _ ∧ k_ ≠ gb119))) (fun _ hk => hk.2) (.slice Ao65 y139.length co65)) (fun _ h_ => h_.1))) hb)) (aI (aM (Kd.R_below (rP (Kd.R_mono (Kd.R_far (p := ⟨gb119, 4, none⟩) (Kd.R_types HO_6.out BK119.out (by decide)) (fun _ hk => hk.2) (.slice Ao65 y139.length co65)) (fun _ h_ => h_.1))) hb)) (aI (aM (Kd.R_below (rP (Kd.R_mono (Kd.R_far (p := ⟨gb119, 4, none⟩) (Kd.R_types HO141.out BK119.out (by decide)) (fun _ hk => hk.2) (.slice Ao65 y139.length co65)) (fun _ h_ => h_.1))) hb)) (aI (kB BK114 hb) (aI (aM (blk_below (g := gb119) (o := .cells #[.int .i64 (wrap64 (rd y115 0)), .int .i64 (rd x6_1 0), .int .i64 (rd x6_1 1), .int .i64 (rd x6_1 2), .slice Ao65 y139.length co65] 33 (0, 0)) (by (with_reducible repeat (first | apply bN | apply bD | apply bA)); refine blk_put (cs := #[.int .i64 (wrap64 (rd y115 0)), .int .i64 (rd x6_1 0), .int .i64 (rd x6_1 1), .int .i64 (rd x6_1 2), .slice none 0 0]) ?_ 4 _ rfl; (with_reducible repeat (first | apply bN | apply bD | apply bA)); exact BK119.out) hb)) (aI (aM (Kd.C_below (show Kd.C (Kd.int .i64) _ A63 y135.length y135 from by rw [Ny135.out, KA63.out]; exact Kd.C_drop (m := 3) (c := co58) ((Kd.R_reads' (rP (Kd.R_mono (Kd.R_far (p := ⟨gb119, 4, none⟩) (Kd.R_types HO_6.out BK119.out (by decide)) (fun _ hk => hk.2) (.slice Ao65 y139.length co65)) (fun _ h_ => h_.1)))).2.2) KL63.out ((Kd.R_reads' (rP (Kd.R_mono (Kd.R_far (p := ⟨gb119, 4, none⟩) (Kd.R_types HO_6.out BK119.out (by decide)) (fun _ hk => hk.2) (.slice Ao65 y139.length co65)) (fun _ h_ => h_.1)))).2.1)) hb)) (sB HB hb)))))); clear HO_4 HO_6 HO141 BK114 BK119 HR138 HB; obtain ⟨HO_4, HO_6, HO141, BK114, BK119, HR138, HB⟩ := n_; (try clear hb); have hcz68_0 := cZ0 BK114; have hcz68_1 := cZ1 BK114; have hcz68_2 : w67.cell? ⟨gb114, 2, none⟩ = some (.int .i64 x115002_1) := (blk_cell BK114.out 2).trans rfl; have hcz68_3 : w67.cell? ⟨gb114, 3, none⟩ = some (.int .i64 x115003_1) := (blk_cell BK114.out 3).trans rfl; have hcz68_4 : w67.cell? ⟨gb114, 4, none⟩ = some (.slice none 0 0) := (blk_cell BK114.out 4).trans rfl; have hfz68_0 := fZ BK114 0; have hfz68_1 := fZ BK114 1; have hfz68_2 := fZ BK114 2; have hfz68_3 := fZ BK114 3; have hfz68_4 := fZ BK114 4))
             refine bodyPost_ret (results_ct rfl _ _ gb114 33 #[.int .i64 0, .int .i64 0, .int .i64 0, .int .i64 0, .slice none 0 0] (0, 0) _ rfl (by (with_reducible repeat (first | apply bN | apply bD | apply bA)); refine blk_put (cs := #[.int .i64 0, .int .i64 0, .int .i64 0, .int .i64 0, .slice none 0 0]) ?_ 4 _ rfl; (with_reducible repeat (first | apply bN | apply bD | apply bA)); refine blk_put (cs := #[.int .i64 0, .int .i64 0, .int .i64 0, .int .i64 x115003_1, .slice none 0 0]) ?_ 3 _ rfl; (with_reducible repeat (first | apply bN | apply bD | apply bA)); refine blk_put (cs := #[.int .i64 0, .int .i64 0, .int .i64 x115002_1, .int .i64 x115003_1, .slice none 0 0]) ?_ 2 _ rfl; (with_reducible repeat (first | apply bN | apply bD | apply bA)); refine blk_put (cs := #[.int .i64 0, .int .i64 x115001_1, .int .i64 x115002_1, .int .i64 x115003_1, .slice none 0 0]) ?_ 1 _ rfl; (with_reducible repeat (first | apply bN | apply bD | apply bA)); refine blk_put (cs := #[.int .i64 x115000_1, .int .i64 x115001_1, .int .i64 x115002_1, .int .i64 x115003_1, .slice none 0 0]) ?_ 0 _ rfl; (with_reducible repeat (first | apply bN | apply bD | apply bA)); exact BK114.out) Try.underlying33 rfl (by kernel_rfl)) rfl ?_
             exact ⟨_, eW, by first | exact Kd.R_nil _ _ _ _ _ | exact Kd.N_nil _ _ _ _ _ | exact Kd.V_nil _ _ _ _ _ | exact Kd.Q_nil _ _ _ _ _ | exact Kd.S_nil _ _ _ _ _, bB⟩
           ·rw [if_neg c43] at H
            exact absurd H (by simp)
          ·rw [if_neg c42] at H
           exact absurd H (by simp)
         ·rw [if_neg c41] at H
          exact absurd H (by simp)
        ·rw [if_neg c40] at H
         exact absurd H (by simp)
       ·rw [if_neg c39] at H
        exact absurd H (by simp)
  rw [if_neg c9] at H
  exact absurd H (by simp)
 rw [if_neg c2] at H
 exact absurd H (by simp)

/-! ### impl_within: function 24 -/
def impl_within.f (a0 : Int) (a1 : Int) (a2 : Int) : Option (Bool) := if a0 ≥ a1 then (some (decide (a0 ≤ a2))) else (some false)
set_option maxHeartbeats 8000000 in
set_option maxRecDepth 100000 in
theorem impl_within.calls (a0 : Int) (a1 : Int) (a2 : Int) (r : Bool) (w : World) (h : impl_within.f a0 a1 a2 = some r) :
  Calls Try.prog 24 #[.int .i64 a0, .int .i64 a1, .int .i64 a2] w fun e w' => e = .returned (.bool r) ∧ Drawn0 w w' := by
 unfold impl_within.f at h
 have H := h
 clear h
 by_cases c4 : a0 ≥ a1
 ·rw [if_pos c4] at H
  have c4b0 : decide (a1 ≤ a0) = true := decide_eq_true c4
  clear c4
  obtain rfl := Option.some.inj H
  go_enter Try.func24, Try.ntmps24
  go_wp2
  go_ret
  exact ⟨by first | rfl | (simp; done) | (simp [*]; done), by repeat (first | exact Drawn0.refl _ | apply Drawn0.step)⟩
 rw [if_neg c4] at H
 have c4b0 : decide (a1 ≤ a0) = false := decide_eq_false c4
 clear c4
 obtain rfl := Option.some.inj H
 go_enter Try.func24, Try.ntmps24
 go_wp2
 go_ret
 exact ⟨by first | rfl | (simp; done) | (simp [*]; done), by repeat (first | exact Drawn0.refl _ | apply Drawn0.step)⟩

/-! ### impl_BlocksFor: function 46 -/
def impl_BlocksFor.f (a0 : Int) : Option (Int) := if a0 ≤ 0 then (some 0) else (if a0 > 80 then (some 5) else (some (wrap64 (Int.tdiv (wrap64 ((wrap64 (a0 + 16)) - 1)) 16))))
set_option maxHeartbeats 8000000 in
set_option maxRecDepth 100000 in
theorem impl_BlocksFor.calls (a0 : Int) (r : Int) (w : World) (h : impl_BlocksFor.f a0 = some r) :
  Calls Try.prog 46 #[.int .i64 a0] w fun e w' => e = .returned (.int .i64 r) ∧ Drawn0 w w' := by
 unfold impl_BlocksFor.f at h
 have H := h
 clear h
 by_cases c2 : a0 ≤ 0
 ·rw [if_pos c2] at H
  have c2b0 : decide (a0 ≤ 0) = true := decide_eq_true c2
  clear c2
  obtain rfl := Option.some.inj H
  go_enter Try.func46, Try.ntmps46
  go_wp2
  go_ret
  exact ⟨by first | rfl | (simp; done) | (simp [*]; done), by repeat (first | exact Drawn0.refl _ | apply Drawn0.step)⟩
 rw [if_neg c2] at H
 have c2b0 : decide (a0 ≤ 0) = false := decide_eq_false c2
 clear c2
 by_cases c3 : a0 > 80
 ·rw [if_pos c3] at H
  have c3b0 : decide (80 < a0) = true := decide_eq_true c3
  clear c3
  obtain rfl := Option.some.inj H
  go_enter Try.func46, Try.ntmps46
  go_wp2
  go_ret
  exact ⟨by first | rfl | (simp; done) | (simp [*]; done), by repeat (first | exact Drawn0.refl _ | apply Drawn0.step)⟩
 rw [if_neg c3] at H
 have c3b0 : decide (80 < a0) = false := decide_eq_false c3
 clear c3
 obtain rfl := Option.some.inj H
 go_enter Try.func46, Try.ntmps46
 go_wp2
 go_ret
 exact ⟨by first | rfl | (simp; done) | (simp [*]; done), by repeat (first | exact Drawn0.refl _ | apply Drawn0.step)⟩

/-! ### slices_Index_int_int: function 51 -/
def slices_Index_int_int.l0 : Nat → List Int → Int → Int → Int → Option (Int)
 | 0, _, _, _, _ => none
 | k + 1, x0, x1, x7, x8 => if x8 < x7 then (if 0 ≤ x8 then (if x8 < (x0.length : Int) then (if x1 = (rd x0 x8) then (some x8) else (slices_Index_int_int.l0 k x0 x1 x7 (wrap64 (x8 + 1)))) else (none)) else (none)) else (some (-1))
def slices_Index_int_int.f (k : Nat) (l0 : List Int) (a1 : Int) : Option (Int) := slices_Index_int_int.l0 k l0 a1 (l0.length : Int) 0
theorem slices_Index_int_int.mono_l : ∀ k, (∀ y0 y1 y2 y3, LeO (slices_Index_int_int.l0 k y0 y1 y2 y3) (slices_Index_int_int.l0 (k + 1) y0 y1 y2 y3))
 | 0 => fun _ _ _ _ r h => by simp [slices_Index_int_int.l0] at h
 | k + 1 => by
  have ih0 := slices_Index_int_int.mono_l k
  ·intro y0 y1 y2 y3
   unfold slices_Index_int_int.l0
   exact mM
theorem slices_Index_int_int.mono : ∀ a0 a1 k, LeO (slices_Index_int_int.f k a0 a1) (slices_Index_int_int.f (k + 1) a0 a1) := by
 intro a0 a1 k
 have ih0 := slices_Index_int_int.mono_l k
 unfold slices_Index_int_int.f
 exact mM
set_option maxHeartbeats 8000000 in
set_option maxRecDepth 100000 in
theorem slices_Index_int_int.calls (k : Nat) (A0 : Option Addr) (c0 : Nat) (l0 : List Int) (a1 : Int) (r : Int) (w : World) (hr0 : Kd.C (Kd.int .i64) w A0 l0.length l0) (hc0 : l0.length ≤ c0) (h : slices_Index_int_int.f k l0 a1 = some r) :
  Calls Try.prog 51 #[.slice A0 l0.length c0, .int .i64 a1] w fun e w' => e = .returned (.int .i64 r) ∧ Drawn0 w w' := by
 have HR0 := aM hr0
 have HC0 := aM hc0
 clear hr0 hc0
 unfold slices_Index_int_int.f at h
 have H := h
 clear h
 have H' := aM H
 clear H
 go_enter Try.func51, Try.ntmps51
 go_wp2
 go_loopg [8] k (fun kq v8 w' => ∃ (x8_1 : Int), v8 = .int .i64 x8_1 ∧ Aside0 (slices_Index_int_int.l0 kq l0 a1 (l0.length : Int) x8_1 = some r) ∧ Aside0 (kq ≤ k) ∧ Drawn0 w w')
 case atStart => exact ⟨(0), (by first | rfl | (simp; done) | (simp [*]; done) | (simp; exact (by intro l_; cases l_ <;> rfl : ∀ l_ : List UInt8, l_.isEmpty = !(l_ != [])) _)), H', ⟨Nat.le_refl _⟩, by repeat (first | exact Drawn0.refl _ | apply Drawn0.step)⟩
 case round =>
  clear H'
  try clear p2
  obtain ⟨x8_1, rfl, HA, HK1, ⟨m1, rfl⟩⟩ := hrel
  cases gk with
  | zero => exact absurd HA.out (by simp [slices_Index_int_int.l0])
  | succ k1 =>
   have H := HA.out
   clear HA
   simp only [slices_Index_int_int.l0] at H
   by_cases c3 : x8_1 < (l0.length : Int)
   ·rw [if_pos c3] at H
    have c3b0 : decide (x8_1 < (l0.length : Int)) = true := decide_eq_true c3
    clear c3
    by_cases c4 : 0 ≤ x8_1
    ·rw [if_pos c4] at H
     have c4b0 : decide (0 ≤ x8_1) = true := decide_eq_true c4
     clear c4
     by_cases c5 : x8_1 < (l0.length : Int)
     ·rw [if_pos c5] at H
      have c5b0 : decide (x8_1 < (l0.length : Int)) = true := decide_eq_true c5
      clear c5
      by_cases c6 : a1 = (rd l0 x8_1)
      ·rw [if_pos c6] at H
       have c6b0 : (a1 == (rd l0 x8_1)) = true := beq_iff_eq.mpr c6
       have c6b1 : (a1 != (rd l0 x8_1)) = false := bne_eq_false_iff_eq.mpr c6
       clear c6
       obtain rfl := Option.some.inj H
       have p143 : 0 ≤ (x8_1 : Int) := dT
       have q143 : x8_1 < (l0.length : Int) := dT
       obtain ⟨ad143, e143, hx143_0⟩ := Kd.at_int HR0.out x8_1 p143 q143
       cases e143
       replace p143 := eq_true p143
       replace q143 := eq_true q143
       go_wp2
       go_ret
       exact ⟨by first | rfl | (simp; done) | (simp [*]; done), by repeat (first | exact Drawn0.refl _ | apply Drawn0.step)⟩
      ·rw [if_neg c6] at H
       have c6b0 : (a1 == (rd l0 x8_1)) = false := beq_eq_false_iff_ne.mpr c6
       have c6b1 : (a1 != (rd l0 x8_1)) = true := bne_iff_ne.mpr c6
       have H' := aM H
       clear H
       have p143 : 0 ≤ (x8_1 : Int) := dT
       have q143 : x8_1 < (l0.length : Int) := dT
       obtain ⟨ad143, e143, hx143_0⟩ := Kd.at_int HR0.out x8_1 p143 q143
       cases e143
       replace p143 := eq_true p143
       replace q143 := eq_true q143
       go_wp2
       go_roundg k1
       case measure => have := HK1.out; omega
       case rel => exact ⟨(wrap64 (x8_1 + 1)), (by first | rfl | (simp; done) | (simp [*]; done) | (simp; exact (by intro l_; cases l_ <;> rfl : ∀ l_ : List UInt8, l_.isEmpty = !(l_ != [])) _)), H', ⟨by have := HK1.out; omega⟩, by repeat (first | exact Drawn0.refl _ | apply Drawn0.step)⟩
     ·rw [if_neg c5] at H
      exact absurd H (by simp)
    ·rw [if_neg c4] at H
     exact absurd H (by simp)
   ·rw [if_neg c3] at H
    have c3b0 : decide (x8_1 < (l0.length : Int)) = false := decide_eq_false c3
    clear c3
    obtain rfl := Option.some.inj H
    go_wp2
    go_ret
    exact ⟨by first | rfl | (simp; done) | (simp [*]; done), by repeat (first | exact Drawn0.refl _ | apply Drawn0.step)⟩

/-! ### slices_Contains_int_int: function 47 -/
def slices_Contains_int_int.f (k : Nat) (l0 : List Int) (a1 : Int) : Option (Bool) := (slices_Index_int_int.f k l0 a1).bind fun t144 => (some (decide (t144 ≥ 0)))
theorem slices_Contains_int_int.mono : ∀ a0 a1 k, LeO (slices_Contains_int_int.f k a0 a1) (slices_Contains_int_int.f (k + 1) a0 a1) := by
 intro a0 a1 k
 unfold slices_Contains_int_int.f
 have m0_ := @slices_Index_int_int.mono
 exact mM
set_option maxHeartbeats 8000000 in
set_option maxRecDepth 100000 in
theorem slices_Contains_int_int.calls (k : Nat) (A0 : Option Addr) (c0 : Nat) (l0 : List Int) (a1 : Int) (r : Bool) (w : World) (hr0 : Kd.C (Kd.int .i64) w A0 l0.length l0) (hc0 : l0.length ≤ c0) (h : slices_Contains_int_int.f k l0 a1 = some r) :
  Calls Try.prog 47 #[.slice A0 l0.length c0, .int .i64 a1] w fun e w' => e = .returned (.bool r) ∧ Drawn0 w w' := by
 have HR0 := aM hr0
 have HC0 := aM hc0
 clear hr0 hc0
 unfold slices_Contains_int_int.f at h
 have H := h
 clear h
 replace H := Option.bind_eq_some_iff.mp H
 obtain ⟨t144, A30, H⟩ := H
 try dsimp only at H
 have A3 := aM A30
 clear A30
 obtain rfl := Option.some.inj H
 go_enter Try.func47, Try.ntmps47
 go_wp2_with (first | ((with_reducible refine gate_callee (f := 51) rfl ?_); refine gL (some 7) Try.func51 #[.slice A0 l0.length c0, .int .i64 a1] ?_; (with_reducible refine (slices_Index_int_int.calls k _ _ l0 a1 t144 _ ?side1 ?side2 A3.out).mono ?_); (case side1 => repeat (first | exact HR0.out | (with_reducible refine Kd.C_alloc ?_ _) | (with_reducible refine Kd.C_drewN ?_ _) | (with_reducible refine Kd.C_drew ?_))); (case side2 => exact HC0.out); rintro e w' ⟨rfl, ⟨nd, rfl⟩⟩; refine ⟨_, rfl, ?_⟩))
 go_ret
 exact ⟨by first | rfl | (simp; done) | (simp [*]; done), by repeat (first | exact Drawn0.refl _ | apply Drawn0.step)⟩

end Go.Proofs.Ytadfimhielcmmaa.PFnNodes
