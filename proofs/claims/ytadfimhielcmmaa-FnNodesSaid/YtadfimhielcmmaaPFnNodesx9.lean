-- Written by xprint.py, a program of this session over the kit's print. Not trusted: Lean checks it.
import Derived.Test.YtadfimhielcmmaaPFnNodesx0
import Derived.Test.YtadfimhielcmmaaPFnNodesx2
import Derived.Test.YtadfimhielcmmaaPFnNodesx3
import Derived.Test.YtadfimhielcmmaaPFnNodesx4
import Derived.Test.YtadfimhielcmmaaPFnNodesx5
import Derived.Test.YtadfimhielcmmaaPFnNodesx6
import Derived.Test.YtadfimhielcmmaaPFnNodesx8
namespace Go.Proofs.Ytadfimhielcmmaa.PFnNodes
open Go.RowKit Go.Proofs.YtadfimhielcmmaaW.PrintWords Go.Proofs.YtadfimhielcmmaaW.PrintLast Go.Proofs.YtadfimhielcmmaaW.PrintMore
attribute [local go_sem] max2_int min2_int max_two min_two max_three min_three max_four min_four   -- for this text's walks alone
set_option linter.unusedVariables false
set_option linter.unusedSimpArgs false

/-! ### spec_l1Same: function 45 -/
def spec_l1Same.l0 : Nat → List Int → List Int → Int → Option (Bool)
 | 0, _, _, _ => none
 | k + 1, x0, x1, x5 => if x5 < (x0.length : Int) then (if 0 ≤ x5 then (if x5 < (x1.length : Int) then (if (rd x0 x5) = (rd x1 x5) then (spec_l1Same.l0 k x0 x1 (wrap64 (x5 + 1))) else (some false)) else (none)) else (none)) else (some true)
def spec_l1Same.f (k : Nat) (l0 : List Int) (l1 : List Int) : Option (Bool) := if (l0.length : Int) = (l1.length : Int) then (spec_l1Same.l0 k l0 l1 0) else (some false)
theorem spec_l1Same.mono_l : ∀ k, (∀ y0 y1 y2, LeO (spec_l1Same.l0 k y0 y1 y2) (spec_l1Same.l0 (k + 1) y0 y1 y2))
 | 0 => fun _ _ _ r h => by simp [spec_l1Same.l0] at h
 | k + 1 => by
  have ih0 := spec_l1Same.mono_l k
  ·intro y0 y1 y2
   unfold spec_l1Same.l0
   exact mM
theorem spec_l1Same.mono : ∀ a0 a1 k, LeO (spec_l1Same.f k a0 a1) (spec_l1Same.f (k + 1) a0 a1) := by
 intro a0 a1 k
 have ih0 := spec_l1Same.mono_l k
 unfold spec_l1Same.f
 exact mM
set_option maxHeartbeats 8000000 in
set_option maxRecDepth 100000 in
theorem spec_l1Same.calls (k : Nat) (A0 : Option Addr) (c0 : Nat) (l0 : List Int) (A1 : Option Addr) (c1 : Nat) (l1 : List Int) (r : Bool) (w : World) (hr0 : Kd.C (Kd.int .i64) w A0 l0.length l0) (hc0 : l0.length ≤ c0) (hr1 : Kd.C (Kd.int .i64) w A1 l1.length l1) (hc1 : l1.length ≤ c1) (h : spec_l1Same.f k l0 l1 = some r) :
  Calls Try.prog 45 #[.slice A0 l0.length c0, .slice A1 l1.length c1] w fun e w' => e = .returned (.bool r) ∧ Drawn0 w w' := by
 have HR0 := aM hr0
 have HC0 := aM hc0
 clear hr0 hc0
 have HR1 := aM hr1
 have HC1 := aM hc1
 clear hr1 hc1
 unfold spec_l1Same.f at h
 have H := h
 clear h
 by_cases c3 : (l0.length : Int) = (l1.length : Int)
 ·rw [if_pos c3] at H
  have c3b0 : ((l0.length : Int) == (l1.length : Int)) = true := beq_iff_eq.mpr c3
  have c3b1 : ((l0.length : Int) != (l1.length : Int)) = false := bne_eq_false_iff_eq.mpr c3
  have c3b2 : (l0.length == l1.length) = true := by first | simpa using c3 | (simp at c3 ⊢; omega)
  clear c3
  have H' := aM H
  clear H
  go_enter Try.func45, Try.ntmps45
  go_wp2
  repeat (go_quiet (fail); try go_wp2)
  go_loopg [5] k (fun kq v5 w' => ∃ (x5_1 : Int), v5 = .int .i64 x5_1 ∧ Aside0 (spec_l1Same.l0 kq l0 l1 x5_1 = some r) ∧ Aside0 (kq ≤ k) ∧ Drawn0 w w')
  case atStart => exact ⟨(0), (by first | rfl | (simp; done) | (simp [*]; done) | (simp; exact (by intro l_; cases l_ <;> rfl : ∀ l_ : List UInt8, l_.isEmpty = !(l_ != [])) _)), H', ⟨Nat.le_refl _⟩, by repeat (first | exact Drawn0.refl _ | apply Drawn0.step)⟩
  case round =>
   clear H'
   try clear c1
   try clear p2
   try clear c3
   try clear c3b0
   try clear c3b1
   try clear c3b2
   obtain ⟨x5_1, rfl, HA, HK1, ⟨m1, rfl⟩⟩ := hrel
   cases gk with
   | zero => exact absurd HA.out (by simp [spec_l1Same.l0])
   | succ k1 =>
    have H := HA.out
    clear HA
    simp only [spec_l1Same.l0] at H
    by_cases c4 : x5_1 < (l0.length : Int)
    ·rw [if_pos c4] at H
     have c4b0 : decide (x5_1 < (l0.length : Int)) = true := decide_eq_true c4
     clear c4
     by_cases c5 : 0 ≤ x5_1
     ·rw [if_pos c5] at H
      have c5b0 : decide (0 ≤ x5_1) = true := decide_eq_true c5
      clear c5
      by_cases c6 : x5_1 < (l1.length : Int)
      ·rw [if_pos c6] at H
       have c6b0 : decide (x5_1 < (l1.length : Int)) = true := decide_eq_true c6
       clear c6
       by_cases c7 : (rd l0 x5_1) = (rd l1 x5_1)
       ·rw [if_pos c7] at H
        have c7b0 : ((rd l0 x5_1) == (rd l1 x5_1)) = true := beq_iff_eq.mpr c7
        have c7b1 : ((rd l0 x5_1) != (rd l1 x5_1)) = false := bne_eq_false_iff_eq.mpr c7
        clear c7
        have H' := aM H
        clear H
        have p368 : 0 ≤ (x5_1 : Int) := dT
        have q368 : x5_1 < (l0.length : Int) := dT
        obtain ⟨ad368, e368, hx368_0⟩ := Kd.at_int HR0.out x5_1 p368 q368
        cases e368
        replace p368 := eq_true p368
        replace q368 := eq_true q368
        have p369 : 0 ≤ (x5_1 : Int) := dT
        have q369 : x5_1 < (l1.length : Int) := dT
        obtain ⟨ad369, e369, hx369_0⟩ := Kd.at_int HR1.out x5_1 p369 q369
        cases e369
        replace p369 := eq_true p369
        replace q369 := eq_true q369
        go_wp2
        repeat (go_quiet (fail); try go_wp2)
        go_roundg k1
        case measure => have := HK1.out; omega
        case rel => exact ⟨(wrap64 (x5_1 + 1)), (by first | rfl | (simp; done) | (simp [*]; done) | (simp; exact (by intro l_; cases l_ <;> rfl : ∀ l_ : List UInt8, l_.isEmpty = !(l_ != [])) _)), H', ⟨by have := HK1.out; omega⟩, by repeat (first | exact Drawn0.refl _ | apply Drawn0.step)⟩
       ·rw [if_neg c7] at H
        have c7b0 : ((rd l0 x5_1) == (rd l1 x5_1)) = false := beq_eq_false_iff_ne.mpr c7
        have c7b1 : ((rd l0 x5_1) != (rd l1 x5_1)) = true := bne_iff_ne.mpr c7
        obtain rfl := Option.some.inj H
        have p368 : 0 ≤ (x5_1 : Int) := dT
        have q368 : x5_1 < (l0.length : Int) := dT
        obtain ⟨ad368, e368, hx368_0⟩ := Kd.at_int HR0.out x5_1 p368 q368
        cases e368
        replace p368 := eq_true p368
        replace q368 := eq_true q368
        have p369 : 0 ≤ (x5_1 : Int) := dT
        have q369 : x5_1 < (l1.length : Int) := dT
        obtain ⟨ad369, e369, hx369_0⟩ := Kd.at_int HR1.out x5_1 p369 q369
        cases e369
        replace p369 := eq_true p369
        replace q369 := eq_true q369
        go_wp2
        repeat (go_quiet (fail); try go_wp2)
        go_ret
        exact ⟨by first | rfl | (simp; done) | (simp [*]; done), by repeat (first | exact Drawn0.refl _ | apply Drawn0.step)⟩
      ·rw [if_neg c6] at H
       exact absurd H (by simp)
     ·rw [if_neg c5] at H
      exact absurd H (by simp)
    ·rw [if_neg c4] at H
     have c4b0 : decide (x5_1 < (l0.length : Int)) = false := decide_eq_false c4
     clear c4
     obtain rfl := Option.some.inj H
     go_wp2
     repeat (go_quiet (fail); try go_wp2)
     go_ret
     exact ⟨by first | rfl | (simp; done) | (simp [*]; done), by repeat (first | exact Drawn0.refl _ | apply Drawn0.step)⟩
 rw [if_neg c3] at H
 have c3b0 : ((l0.length : Int) == (l1.length : Int)) = false := beq_eq_false_iff_ne.mpr c3
 have c3b1 : ((l0.length : Int) != (l1.length : Int)) = true := bne_iff_ne.mpr c3
 have c3b2 : (l0.length == l1.length) = false := by first | simpa using c3 | (simp at c3 ⊢; omega)
 obtain rfl := Option.some.inj H
 go_enter Try.func45, Try.ntmps45
 go_wp2
 repeat (go_quiet (fail); try go_wp2)
 go_ret
 exact ⟨by first | rfl | (simp; done) | (simp [*]; done), by repeat (first | exact Drawn0.refl _ | apply Drawn0.step)⟩

/-! ### spec_NodeSame: function 21 -/
def spec_NodeSame.f (k : Nat) (a0_0 : Int) (a0_1 : Int) (a0_2 : Int) (a0_3 : Int) (l0_4 : List Int) (a1_0 : Int) (a1_1 : Int) (a1_2 : Int) (a1_3 : Int) (l1_4 : List Int) : Option (Bool) := if a0_0 = a1_0 then (if a0_1 = a1_1 then (if a0_2 = a1_2 then (if a0_3 = a1_3 then ((spec_l1Same.f k l0_4 l1_4).bind fun t372 => (some t372)) else (some false)) else (some false)) else (some false)) else (some false)
theorem spec_NodeSame.mono : ∀ a0 a1 a2 a3 a4 a5 a6 a7 a8 a9 k, LeO (spec_NodeSame.f k a0 a1 a2 a3 a4 a5 a6 a7 a8 a9) (spec_NodeSame.f (k + 1) a0 a1 a2 a3 a4 a5 a6 a7 a8 a9) := by
 intro a0 a1 a2 a3 a4 a5 a6 a7 a8 a9 k
 unfold spec_NodeSame.f
 have m0_ := @spec_l1Same.mono
 exact mM
set_option maxHeartbeats 8000000 in
set_option maxRecDepth 100000 in
theorem spec_NodeSame.calls (k : Nat) (a0_0 : Int) (a0_1 : Int) (a0_2 : Int) (a0_3 : Int) (A0_4 : Option Addr) (c0_4 : Nat) (l0_4 : List Int) (a1_0 : Int) (a1_1 : Int) (a1_2 : Int) (a1_3 : Int) (A1_4 : Option Addr) (c1_4 : Nat) (l1_4 : List Int) (r : Bool) (w : World) (hr0_4 : Kd.C (Kd.int .i64) w A0_4 l0_4.length l0_4) (hc0_4 : l0_4.length ≤ c0_4) (hr1_4 : Kd.C (Kd.int .i64) w A1_4 l1_4.length l1_4) (hc1_4 : l1_4.length ≤ c1_4) (h : spec_NodeSame.f k a0_0 a0_1 a0_2 a0_3 l0_4 a1_0 a1_1 a1_2 a1_3 l1_4 = some r) :
  Calls Try.prog 21 #[.agg #[.int .i64 a0_0, .int .i64 a0_1, .int .i64 a0_2, .int .i64 a0_3, .slice A0_4 l0_4.length c0_4], .agg #[.int .i64 a1_0, .int .i64 a1_1, .int .i64 a1_2, .int .i64 a1_3, .slice A1_4 l1_4.length c1_4]] w fun e w' => e = .returned (.bool r) ∧ Below w.heap.size w w' := by
 have hu33 := Try.underlying33
 have HR0_4 := aM hr0_4
 have HC0_4 := aM hc0_4
 clear hr0_4 hc0_4
 have HR1_4 := aM hr1_4
 have HC1_4 := aM hc1_4
 clear hr1_4 hc1_4
 have HB := aM (Below.refl w.heap.size w)
 unfold spec_NodeSame.f at h
 have H := h
 clear h
 by_cases c3 : a0_0 = a1_0
 ·rw [if_pos c3] at H
  have c3b0 : (a0_0 == a1_0) = true := beq_iff_eq.mpr c3
  have c3b1 : (a0_0 != a1_0) = false := bne_eq_false_iff_eq.mpr c3
  clear c3
  by_cases c4 : a0_1 = a1_1
  ·rw [if_pos c4] at H
   have c4b0 : (a0_1 == a1_1) = true := beq_iff_eq.mpr c4
   have c4b1 : (a0_1 != a1_1) = false := bne_eq_false_iff_eq.mpr c4
   clear c4
   by_cases c5 : a0_2 = a1_2
   ·rw [if_pos c5] at H
    have c5b0 : (a0_2 == a1_2) = true := beq_iff_eq.mpr c5
    have c5b1 : (a0_2 != a1_2) = false := bne_eq_false_iff_eq.mpr c5
    clear c5
    by_cases c6 : a0_3 = a1_3
    ·rw [if_pos c6] at H
     have c6b0 : (a0_3 == a1_3) = true := beq_iff_eq.mpr c6
     have c6b1 : (a0_3 != a1_3) = false := bne_eq_false_iff_eq.mpr c6
     clear c6
     replace H := Option.bind_eq_some_iff.mp H
     obtain ⟨t372, A70, H⟩ := H
     try dsimp only at H
     have A7 := aM A70
     clear A70
     obtain rfl := Option.some.inj H
     go_enter Try.func21, Try.ntmps21
     go_wp2_with (first | ((with_reducible refine gate_dst (N := 2) rfl ?_); refine bE 2 #[.int .i64 a0_0, .int .i64 a0_1, .int .i64 a0_2, .int .i64 a0_3, .slice A0_4 l0_4.length c0_4] 33 ?_; intro gb370 hg w8 hbox hb; have n_ := aI (sB HB hb) (aI (aM hbox) (aI (gE HB hg) (gE HB hg))); clear HB; obtain ⟨HB, BK370, GW370, GE370⟩ := n_; (try clear hb hbox hg)) | ((with_reducible refine gate_dst (N := 3) rfl ?_); refine bE 3 #[.int .i64 a1_0, .int .i64 a1_1, .int .i64 a1_2, .int .i64 a1_3, .slice A1_4 l1_4.length c1_4] 33 ?_; intro gb371 hg w9 hbox hb; have n_ := aI (kB BK370 hb) (aI (sB HB hb) (aI (aM hbox) (aI (gE HB hg) (aI (gE HB hg) (aI (nL BK370 hg) (nG BK370 hg)))))); clear BK370 HB; obtain ⟨BK370, HB, BK371, GW371, GE371, NB370_371, NB371_370⟩ := n_; (try clear hb hbox hg); have hnb10 := NB370_371.out; have hnc10 := NB371_370.out; have hcz11_0 := cZ0 BK370; have hcz11_1 := cZ1 BK370; have hcz11_2 : w9.cell? ⟨gb370, 2, none⟩ = some (.int .i64 a0_2) := (blk_cell BK370.out 2).trans rfl; have hcz11_3 : w9.cell? ⟨gb370, 3, none⟩ = some (.int .i64 a0_3) := (blk_cell BK370.out 3).trans rfl; have hcz11_4 : w9.cell? ⟨gb370, 4, none⟩ = some (.slice A0_4 l0_4.length c0_4) := (blk_cell BK370.out 4).trans rfl; have hfz11_0 := fZ BK370 0; have hfz11_1 := fZ BK370 1; have hfz11_2 := fZ BK370 2; have hfz11_3 := fZ BK370 3; have hfz11_4 := fZ BK370 4; have hcz12_0 := cZ0 BK371; have hcz12_1 := cZ1 BK371; have hcz12_2 : w9.cell? ⟨gb371, 2, none⟩ = some (.int .i64 a1_2) := (blk_cell BK371.out 2).trans rfl; have hcz12_3 : w9.cell? ⟨gb371, 3, none⟩ = some (.int .i64 a1_3) := (blk_cell BK371.out 3).trans rfl; have hcz12_4 : w9.cell? ⟨gb371, 4, none⟩ = some (.slice A1_4 l1_4.length c1_4) := (blk_cell BK371.out 4).trans rfl; have hfz12_0 := fZ BK371 0; have hfz12_1 := fZ BK371 1; have hfz12_2 := fZ BK371 2; have hfz12_3 := fZ BK371 3; have hfz12_4 := fZ BK371 4) | (go_at_call 45; (with_reducible refine (spec_l1Same.calls k _ _ l0_4 _ _ l1_4 t372 _ ?side1 ?side2 ?side3 ?side4 A7.out).mono ?_); (case side1 => exact cS HR0_4 HB); (case side2 => exact HC0_4.out); (case side3 => exact cS HR1_4 HB); (case side4 => exact HC1_4.out); rintro e w' ⟨rfl, ⟨nd, rfl⟩⟩))
     go_ret
     exact ⟨eW, bB⟩
    rw [if_neg c6] at H
    have c6b0 : (a0_3 == a1_3) = false := beq_eq_false_iff_ne.mpr c6
    have c6b1 : (a0_3 != a1_3) = true := bne_iff_ne.mpr c6
    obtain rfl := Option.some.inj H
    go_enter Try.func21, Try.ntmps21
    go_wp2_with (first | ((with_reducible refine gate_dst (N := 2) rfl ?_); refine bE 2 #[.int .i64 a0_0, .int .i64 a0_1, .int .i64 a0_2, .int .i64 a0_3, .slice A0_4 l0_4.length c0_4] 33 ?_; intro gb370 hg w13 hbox hb; have n_ := aI (sB HB hb) (aI (aM hbox) (aI (gE HB hg) (gE HB hg))); clear HB; obtain ⟨HB, BK370, GW370, GE370⟩ := n_; (try clear hb hbox hg)) | ((with_reducible refine gate_dst (N := 3) rfl ?_); refine bE 3 #[.int .i64 a1_0, .int .i64 a1_1, .int .i64 a1_2, .int .i64 a1_3, .slice A1_4 l1_4.length c1_4] 33 ?_; intro gb371 hg w14 hbox hb; have n_ := aI (kB BK370 hb) (aI (sB HB hb) (aI (aM hbox) (aI (gE HB hg) (aI (gE HB hg) (aI (nL BK370 hg) (nG BK370 hg)))))); clear BK370 HB; obtain ⟨BK370, HB, BK371, GW371, GE371, NB370_371, NB371_370⟩ := n_; (try clear hb hbox hg); have hnb15 := NB370_371.out; have hnc15 := NB371_370.out; have hcz16_0 := cZ0 BK370; have hcz16_1 := cZ1 BK370; have hcz16_2 : w14.cell? ⟨gb370, 2, none⟩ = some (.int .i64 a0_2) := (blk_cell BK370.out 2).trans rfl; have hcz16_3 : w14.cell? ⟨gb370, 3, none⟩ = some (.int .i64 a0_3) := (blk_cell BK370.out 3).trans rfl; have hcz16_4 : w14.cell? ⟨gb370, 4, none⟩ = some (.slice A0_4 l0_4.length c0_4) := (blk_cell BK370.out 4).trans rfl; have hfz16_0 := fZ BK370 0; have hfz16_1 := fZ BK370 1; have hfz16_2 := fZ BK370 2; have hfz16_3 := fZ BK370 3; have hfz16_4 := fZ BK370 4; have hcz17_0 := cZ0 BK371; have hcz17_1 := cZ1 BK371; have hcz17_2 : w14.cell? ⟨gb371, 2, none⟩ = some (.int .i64 a1_2) := (blk_cell BK371.out 2).trans rfl; have hcz17_3 : w14.cell? ⟨gb371, 3, none⟩ = some (.int .i64 a1_3) := (blk_cell BK371.out 3).trans rfl; have hcz17_4 : w14.cell? ⟨gb371, 4, none⟩ = some (.slice A1_4 l1_4.length c1_4) := (blk_cell BK371.out 4).trans rfl; have hfz17_0 := fZ BK371 0; have hfz17_1 := fZ BK371 1; have hfz17_2 := fZ BK371 2; have hfz17_3 := fZ BK371 3; have hfz17_4 := fZ BK371 4))
    go_ret
    exact ⟨eW, bB⟩
   rw [if_neg c5] at H
   have c5b0 : (a0_2 == a1_2) = false := beq_eq_false_iff_ne.mpr c5
   have c5b1 : (a0_2 != a1_2) = true := bne_iff_ne.mpr c5
   obtain rfl := Option.some.inj H
   go_enter Try.func21, Try.ntmps21
   go_wp2_with (first | ((with_reducible refine gate_dst (N := 2) rfl ?_); refine bE 2 #[.int .i64 a0_0, .int .i64 a0_1, .int .i64 a0_2, .int .i64 a0_3, .slice A0_4 l0_4.length c0_4] 33 ?_; intro gb370 hg w18 hbox hb; have n_ := aI (sB HB hb) (aI (aM hbox) (aI (gE HB hg) (gE HB hg))); clear HB; obtain ⟨HB, BK370, GW370, GE370⟩ := n_; (try clear hb hbox hg)) | ((with_reducible refine gate_dst (N := 3) rfl ?_); refine bE 3 #[.int .i64 a1_0, .int .i64 a1_1, .int .i64 a1_2, .int .i64 a1_3, .slice A1_4 l1_4.length c1_4] 33 ?_; intro gb371 hg w19 hbox hb; have n_ := aI (kB BK370 hb) (aI (sB HB hb) (aI (aM hbox) (aI (gE HB hg) (aI (gE HB hg) (aI (nL BK370 hg) (nG BK370 hg)))))); clear BK370 HB; obtain ⟨BK370, HB, BK371, GW371, GE371, NB370_371, NB371_370⟩ := n_; (try clear hb hbox hg); have hnb20 := NB370_371.out; have hnc20 := NB371_370.out; have hcz21_0 := cZ0 BK370; have hcz21_1 := cZ1 BK370; have hcz21_2 : w19.cell? ⟨gb370, 2, none⟩ = some (.int .i64 a0_2) := (blk_cell BK370.out 2).trans rfl; have hcz21_3 : w19.cell? ⟨gb370, 3, none⟩ = some (.int .i64 a0_3) := (blk_cell BK370.out 3).trans rfl; have hcz21_4 : w19.cell? ⟨gb370, 4, none⟩ = some (.slice A0_4 l0_4.length c0_4) := (blk_cell BK370.out 4).trans rfl; have hfz21_0 := fZ BK370 0; have hfz21_1 := fZ BK370 1; have hfz21_2 := fZ BK370 2; have hfz21_3 := fZ BK370 3; have hfz21_4 := fZ BK370 4; have hcz22_0 := cZ0 BK371; have hcz22_1 := cZ1 BK371; have hcz22_2 : w19.cell? ⟨gb371, 2, none⟩ = some (.int .i64 a1_2) := (blk_cell BK371.out 2).trans rfl; have hcz22_3 : w19.cell? ⟨gb371, 3, none⟩ = some (.int .i64 a1_3) := (blk_cell BK371.out 3).trans rfl; have hcz22_4 : w19.cell? ⟨gb371, 4, none⟩ = some (.slice A1_4 l1_4.length c1_4) := (blk_cell BK371.out 4).trans rfl; have hfz22_0 := fZ BK371 0; have hfz22_1 := fZ BK371 1; have hfz22_2 := fZ BK371 2; have hfz22_3 := fZ BK371 3; have hfz22_4 := fZ BK371 4))
   go_ret
   exact ⟨eW, bB⟩
  rw [if_neg c4] at H
  have c4b0 : (a0_1 == a1_1) = false := beq_eq_false_iff_ne.mpr c4
  have c4b1 : (a0_1 != a1_1) = true := bne_iff_ne.mpr c4
  obtain rfl := Option.some.inj H
  go_enter Try.func21, Try.ntmps21
  go_wp2_with (first | ((with_reducible refine gate_dst (N := 2) rfl ?_); refine bE 2 #[.int .i64 a0_0, .int .i64 a0_1, .int .i64 a0_2, .int .i64 a0_3, .slice A0_4 l0_4.length c0_4] 33 ?_; intro gb370 hg w23 hbox hb; have n_ := aI (sB HB hb) (aI (aM hbox) (aI (gE HB hg) (gE HB hg))); clear HB; obtain ⟨HB, BK370, GW370, GE370⟩ := n_; (try clear hb hbox hg)) | ((with_reducible refine gate_dst (N := 3) rfl ?_); refine bE 3 #[.int .i64 a1_0, .int .i64 a1_1, .int .i64 a1_2, .int .i64 a1_3, .slice A1_4 l1_4.length c1_4] 33 ?_; intro gb371 hg w24 hbox hb; have n_ := aI (kB BK370 hb) (aI (sB HB hb) (aI (aM hbox) (aI (gE HB hg) (aI (gE HB hg) (aI (nL BK370 hg) (nG BK370 hg)))))); clear BK370 HB; obtain ⟨BK370, HB, BK371, GW371, GE371, NB370_371, NB371_370⟩ := n_; (try clear hb hbox hg); have hnb25 := NB370_371.out; have hnc25 := NB371_370.out; have hcz26_0 := cZ0 BK370; have hcz26_1 := cZ1 BK370; have hcz26_2 : w24.cell? ⟨gb370, 2, none⟩ = some (.int .i64 a0_2) := (blk_cell BK370.out 2).trans rfl; have hcz26_3 : w24.cell? ⟨gb370, 3, none⟩ = some (.int .i64 a0_3) := (blk_cell BK370.out 3).trans rfl; have hcz26_4 : w24.cell? ⟨gb370, 4, none⟩ = some (.slice A0_4 l0_4.length c0_4) := (blk_cell BK370.out 4).trans rfl; have hfz26_0 := fZ BK370 0; have hfz26_1 := fZ BK370 1; have hfz26_2 := fZ BK370 2; have hfz26_3 := fZ BK370 3; have hfz26_4 := fZ BK370 4; have hcz27_0 := cZ0 BK371; have hcz27_1 := cZ1 BK371; have hcz27_2 : w24.cell? ⟨gb371, 2, none⟩ = some (.int .i64 a1_2) := (blk_cell BK371.out 2).trans rfl; have hcz27_3 : w24.cell? ⟨gb371, 3, none⟩ = some (.int .i64 a1_3) := (blk_cell BK371.out 3).trans rfl; have hcz27_4 : w24.cell? ⟨gb371, 4, none⟩ = some (.slice A1_4 l1_4.length c1_4) := (blk_cell BK371.out 4).trans rfl; have hfz27_0 := fZ BK371 0; have hfz27_1 := fZ BK371 1; have hfz27_2 := fZ BK371 2; have hfz27_3 := fZ BK371 3; have hfz27_4 := fZ BK371 4))
  go_ret
  exact ⟨eW, bB⟩
 rw [if_neg c3] at H
 have c3b0 : (a0_0 == a1_0) = false := beq_eq_false_iff_ne.mpr c3
 have c3b1 : (a0_0 != a1_0) = true := bne_iff_ne.mpr c3
 obtain rfl := Option.some.inj H
 go_enter Try.func21, Try.ntmps21
 go_wp2_with (first | ((with_reducible refine gate_dst (N := 2) rfl ?_); refine bE 2 #[.int .i64 a0_0, .int .i64 a0_1, .int .i64 a0_2, .int .i64 a0_3, .slice A0_4 l0_4.length c0_4] 33 ?_; intro gb370 hg w28 hbox hb; have n_ := aI (sB HB hb) (aI (aM hbox) (aI (gE HB hg) (gE HB hg))); clear HB; obtain ⟨HB, BK370, GW370, GE370⟩ := n_; (try clear hb hbox hg)) | ((with_reducible refine gate_dst (N := 3) rfl ?_); refine bE 3 #[.int .i64 a1_0, .int .i64 a1_1, .int .i64 a1_2, .int .i64 a1_3, .slice A1_4 l1_4.length c1_4] 33 ?_; intro gb371 hg w29 hbox hb; have n_ := aI (kB BK370 hb) (aI (sB HB hb) (aI (aM hbox) (aI (gE HB hg) (aI (gE HB hg) (aI (nL BK370 hg) (nG BK370 hg)))))); clear BK370 HB; obtain ⟨BK370, HB, BK371, GW371, GE371, NB370_371, NB371_370⟩ := n_; (try clear hb hbox hg); have hnb30 := NB370_371.out; have hnc30 := NB371_370.out; have hcz31_0 := cZ0 BK370; have hcz31_1 := cZ1 BK370; have hcz31_2 : w29.cell? ⟨gb370, 2, none⟩ = some (.int .i64 a0_2) := (blk_cell BK370.out 2).trans rfl; have hcz31_3 : w29.cell? ⟨gb370, 3, none⟩ = some (.int .i64 a0_3) := (blk_cell BK370.out 3).trans rfl; have hcz31_4 : w29.cell? ⟨gb370, 4, none⟩ = some (.slice A0_4 l0_4.length c0_4) := (blk_cell BK370.out 4).trans rfl; have hfz31_0 := fZ BK370 0; have hfz31_1 := fZ BK370 1; have hfz31_2 := fZ BK370 2; have hfz31_3 := fZ BK370 3; have hfz31_4 := fZ BK370 4; have hcz32_0 := cZ0 BK371; have hcz32_1 := cZ1 BK371; have hcz32_2 : w29.cell? ⟨gb371, 2, none⟩ = some (.int .i64 a1_2) := (blk_cell BK371.out 2).trans rfl; have hcz32_3 : w29.cell? ⟨gb371, 3, none⟩ = some (.int .i64 a1_3) := (blk_cell BK371.out 3).trans rfl; have hcz32_4 : w29.cell? ⟨gb371, 4, none⟩ = some (.slice A1_4 l1_4.length c1_4) := (blk_cell BK371.out 4).trans rfl; have hfz32_0 := fZ BK371 0; have hfz32_1 := fZ BK371 1; have hfz32_2 := fZ BK371 2; have hfz32_3 := fZ BK371 3; have hfz32_4 := fZ BK371 4))
 go_ret
 exact ⟨eW, bB⟩

/-! ### laws_FnNodes: function 5 -/
def laws_FnNodes.j0 : Nat → ByteArray → Bool → Bool → Int → Int → Int → Int → List Int → Option (Bool)
 | 0, _, _, _, _, _, _, _, _ => none
 | k + 1, x6, x8, x50, x402000, x402001, x402002, x402003, x402004 => if x50 = true then (some false) else (if x8 = true then ((impl_NodeText.f k x402000 x402001 x402002 x402003 x402004).bind fun t413 => (if t413.toList = x6.toList then ((impl_NodeOk.f k x402000 x402001 x402002 x402003 x402004).bind fun t414 => (some t414)) else (some false))) else (some true))
def laws_FnNodes.f (k : Nat) (l0 : List Int) : Option (Bool) := (laws_big.f l0).bind fun t373 => (if t373 = true then (some true) else ((spec_DrawNodeText.f k l0).bind fun bt374 => ((impl_NodeText.f k bt374.1 bt374.2.1 bt374.2.2.1 bt374.2.2.2.1 bt374.2.2.2.2).bind fun t382 => ((impl_NodeOf.f k t382).bind fun bt383 => ((spec_DrawNodeOf.f k l0).bind fun t392 => ((impl_NodeOf.f k t392).bind fun bt393 => ((spec_NodeOf.f k t392).bind fun bt402 => ((spec_NodeOk.f k bt374.1 bt374.2.1 bt374.2.2.1 bt374.2.2.2.1 bt374.2.2.2.2).bind fun t411 => (if (bt383.2.2.2.2.2 != t411) = true then (laws_FnNodes.j0 k t392 bt393.2.2.2.2.2 true bt393.1 bt393.2.1 bt393.2.2.1 bt393.2.2.2.1 bt393.2.2.2.2.1) else (if bt383.2.2.2.2.2 = true then ((spec_NodeSame.f k bt383.1 bt383.2.1 bt383.2.2.1 bt383.2.2.2.1 bt383.2.2.2.2.1 bt374.1 bt374.2.1 bt374.2.2.1 bt374.2.2.2.1 bt374.2.2.2.2).bind fun t412 => (if t412 = true then (laws_FnNodes.j0 k t392 bt393.2.2.2.2.2 (bt393.2.2.2.2.2 != bt402.2.2.2.2.2) bt393.1 bt393.2.1 bt393.2.2.1 bt393.2.2.2.1 bt393.2.2.2.2.1) else (laws_FnNodes.j0 k t392 bt393.2.2.2.2.2 true bt393.1 bt393.2.1 bt393.2.2.1 bt393.2.2.2.1 bt393.2.2.2.2.1))) else (laws_FnNodes.j0 k t392 bt393.2.2.2.2.2 (bt393.2.2.2.2.2 != bt402.2.2.2.2.2) bt393.1 bt393.2.1 bt393.2.2.1 bt393.2.2.2.1 bt393.2.2.2.2.1)))))))))))
theorem laws_FnNodes.mono_l : ∀ k, (∀ y0 y1 y2 y3 y4 y5 y6 y7, LeO (laws_FnNodes.j0 k y0 y1 y2 y3 y4 y5 y6 y7) (laws_FnNodes.j0 (k + 1) y0 y1 y2 y3 y4 y5 y6 y7))
 | 0 => fun _ _ _ _ _ _ _ _ r h => by simp [laws_FnNodes.j0] at h
 | k + 1 => by
  have ih0 := laws_FnNodes.mono_l k
  ·intro y0 y1 y2 y3 y4 y5 y6 y7
   unfold laws_FnNodes.j0
   have m0_ := @impl_NodeOf.mono
   have m1_ := @impl_NodeOk.mono
   have m2_ := @impl_NodeText.mono
   have m3_ := @spec_DrawNodeOf.mono
   have m4_ := @spec_DrawNodeText.mono
   have m5_ := @spec_NodeOf.mono
   have m6_ := @spec_NodeOk.mono
   have m7_ := @spec_NodeSame.mono
   exact mM
theorem laws_FnNodes.mono : ∀ a0 k, LeO (laws_FnNodes.f k a0) (laws_FnNodes.f (k + 1) a0) := by
 intro a0 k
 have ih0 := laws_FnNodes.mono_l k
 unfold laws_FnNodes.f
 have m0_ := @impl_NodeOf.mono
 have m1_ := @impl_NodeOk.mono
 have m2_ := @impl_NodeText.mono
 have m3_ := @spec_DrawNodeOf.mono
 have m4_ := @spec_DrawNodeText.mono
 have m5_ := @spec_NodeOf.mono
 have m6_ := @spec_NodeOk.mono
 have m7_ := @spec_NodeSame.mono
 exact mM
set_option maxHeartbeats 8000000 in
set_option maxRecDepth 100000 in
theorem laws_FnNodes.calls (k : Nat) (A0 : Option Addr) (c0 : Nat) (l0 : List Int) (r : Bool) (w : World) (hr0 : Kd.C (Kd.int .u8) w A0 l0.length l0) (hc0 : l0.length ≤ c0) (h : laws_FnNodes.f k l0 = some r) :
  Calls Try.prog 5 #[.slice A0 l0.length c0] w fun e w' => e = .returned (.bool r) ∧ Below w.heap.size w w' := by
 have hu33 := Try.underlying33
 have HR0 := aM hr0
 have HC0 := aM hc0
 clear hr0 hc0
 have HB := aM (Below.refl w.heap.size w)
 unfold laws_FnNodes.f at h
 have H := h
 clear h
 replace H := Option.bind_eq_some_iff.mp H
 obtain ⟨t373, A20, H⟩ := H
 try dsimp only at H
 have A2 := aM A20
 clear A20
 by_cases c3 : t373 = true
 ·subst c3
  rw [if_pos rfl] at H
  obtain rfl := Option.some.inj H
  go_enter Try.func5, Try.ntmps5
  go_wp2_with (first | ((with_reducible refine gate_callee (f := 16) rfl ?_); refine gL (some 12) Try.func16 #[.slice A0 l0.length c0] ?_; (with_reducible refine (laws_big.calls _ _ l0 true _ ?side1 ?side2 A2.out).mono ?_); (case side1 => repeat (first | exact HR0.out | (with_reducible refine Kd.C_alloc ?_ _) | (with_reducible refine Kd.C_drewN ?_ _) | (with_reducible refine Kd.C_drew ?_))); (case side2 => exact HC0.out); rintro e w' ⟨rfl, ⟨nd, rfl⟩⟩; refine ⟨_, rfl, ?_⟩))
  go_ret
  exact ⟨eW, bB⟩
 replace c3 := Bool.eq_false_iff.mpr c3
 subst c3
 rw [if_neg (show ¬ (false = true) by decide)] at H
 replace H := Option.bind_eq_some_iff.mp H
 obtain ⟨⟨t374, t375, t376, t377, t378⟩, A40, H⟩ := H
 try dsimp only at H
 have A4 := aM A40
 clear A40
 replace H := Option.bind_eq_some_iff.mp H
 obtain ⟨t382, A50, H⟩ := H
 try dsimp only at H
 have A5 := aM A50
 clear A50
 replace H := Option.bind_eq_some_iff.mp H
 obtain ⟨⟨t383, t384, t385, t386, t387, t390⟩, A60, H⟩ := H
 try dsimp only at H
 have A6 := aM A60
 clear A60
 replace H := Option.bind_eq_some_iff.mp H
 obtain ⟨t392, A70, H⟩ := H
 try dsimp only at H
 have A7 := aM A70
 clear A70
 replace H := Option.bind_eq_some_iff.mp H
 obtain ⟨⟨t393, t394, t395, t396, t397, t400⟩, A80, H⟩ := H
 try dsimp only at H
 have A8 := aM A80
 clear A80
 replace H := Option.bind_eq_some_iff.mp H
 obtain ⟨⟨t402, t403, t404, t405, t406, t409⟩, A90, H⟩ := H
 try dsimp only at H
 have A9 := aM A90
 clear A90
 have HC10 := aM H
 clear H
 go_enter Try.func5, Try.ntmps5
 go_upto_region 8 with (first | ((with_reducible refine gate_callee (f := 16) rfl ?_); refine gL (some 12) Try.func16 #[.slice A0 l0.length c0] ?_; (with_reducible refine (laws_big.calls _ _ l0 false _ ?side1 ?side2 A2.out).mono ?_); (case side1 => repeat (first | exact HR0.out | (with_reducible refine Kd.C_alloc ?_ _) | (with_reducible refine Kd.C_drewN ?_ _) | (with_reducible refine Kd.C_drew ?_))); (case side2 => exact HC0.out); rintro e w' ⟨rfl, ⟨nd, rfl⟩⟩; refine ⟨_, rfl, ?_⟩) | ((with_reducible refine gate_callee (f := 17) rfl ?_); refine gL (some 14) Try.func17 #[.slice A0 l0.length c0] ?_; (with_reducible refine (spec_DrawNodeText.calls k _ _ l0 t374 t375 t376 t377 t378 _ ?side1 ?side2 A4.out).mono ?_); (case side1 => repeat (first | exact HR0.out | (with_reducible refine Kd.C_alloc ?_ _) | (with_reducible refine Kd.C_drewN ?_ _) | (with_reducible refine Kd.C_drew ?_))); (case side2 => exact HC0.out); rintro e w11 ⟨v379, rfl, ho0, hb⟩; refine ⟨_, rfl, ?_⟩; have n_ := aI (lR HB ho0) (sB HB hb); clear HB; obtain ⟨HO380, HB⟩ := n_; (try clear hb ho0)) | ((with_reducible refine gate_dst (N := 3) rfl ?_); refine bE 3 #[.int .i64 0, .int .i64 0, .int .i64 0, .int .i64 0, .slice none 0 0] 33 ?_; intro gb381 hg w12 hbox hb; have n_ := aI (rB HO380 hb) (aI (sB HB hb) (aI (aM hbox) (aI (gE HB hg) (gE HB hg)))); clear HO380 HB; obtain ⟨HO380, HB, BK381, GW381, GE381⟩ := n_; (try clear hb hbox hg); have hcz13_0 := cZ0 BK381; have hcz13_1 := cZ1 BK381; have hcz13_2 : w12.cell? ⟨gb381, 2, none⟩ = some (.int .i64 0) := (blk_cell BK381.out 2).trans rfl; have hcz13_3 : w12.cell? ⟨gb381, 3, none⟩ = some (.int .i64 0) := (blk_cell BK381.out 3).trans rfl; have hcz13_4 : w12.cell? ⟨gb381, 4, none⟩ = some (.slice none 0 0) := (blk_cell BK381.out 4).trans rfl; have hfz13_0 := fZ BK381 0; have hfz13_1 := fZ BK381 1; have hfz13_2 := fZ BK381 2; have hfz13_3 := fZ BK381 3; have hfz13_4 := fZ BK381 4; obtain ⟨Ao14, co14, eo14⟩ := Kd.R_slice HO380.out; subst eo14) | ((with_reducible refine gate_callee (f := 18) rfl ?_); refine gL (some 17) Try.func18 #[.agg #[.int .i64 t374, .int .i64 t375, .int .i64 t376, .int .i64 t377, .slice Ao14 t378.length co14]] ?_; (with_reducible refine (impl_NodeText.calls k t374 t375 t376 t377 _ _ t378 t382 _ ?side1 ?side2 A5.out).mono ?_); (case side1 => refine (Kd.R_reads' (e := 3) (base := w.heap.size) (ok := fun k_ => True) (n := t378.length) (c := co14) ?_).2.2; exact (rP (Kd.R_mono (Kd.R_far (p := ⟨gb381, 4, none⟩) (Kd.R_far (p := ⟨gb381, 3, none⟩) (Kd.R_far (p := ⟨gb381, 2, none⟩) (Kd.R_far (p := ⟨gb381, 1, none⟩) (Kd.R_far (p := ⟨gb381, 0, none⟩) (Kd.R_types HO380.out BK381.out (by decide)) (fun _ hk => hk.2) (.int .i64 t374)) (fun _ hk => hk.2) (.int .i64 t375)) (fun _ hk => hk.2) (.int .i64 t376)) (fun _ hk => hk.2) (.int .i64 t377)) (fun _ hk => hk.2) (.slice Ao14 t378.length co14)) (fun _ h_ => h_.1)))); (case side2 => exact (Kd.R_reads' HO380.out).2.1); rintro e w15 ⟨rfl, hb⟩; refine ⟨_, rfl, ?_⟩; have n_ := aI (aM (Kd.R_below (rP (Kd.R_mono (Kd.R_far (p := ⟨gb381, 4, none⟩) (Kd.R_far (p := ⟨gb381, 3, none⟩) (Kd.R_far (p := ⟨gb381, 2, none⟩) (Kd.R_far (p := ⟨gb381, 1, none⟩) (Kd.R_far (p := ⟨gb381, 0, none⟩) (Kd.R_types HO380.out BK381.out (by decide)) (fun _ hk => hk.2) (.int .i64 t374)) (fun _ hk => hk.2) (.int .i64 t375)) (fun _ hk => hk.2) (.int .i64 t376)) (fun _ hk => hk.2) (.int .i64 t377)) (fun _ hk => hk.2) (.slice Ao14 t378.length co14)) (fun _ h_ => h_.1))) hb)) (aI (aM (blk_below (g := gb381) (o := .cells #[.int .i64 t374, .int .i64 t375, .int .i64 t376, .int .i64 t377, .slice Ao14 t378.length co14] 33 (0, 0)) (by (with_reducible repeat (first | apply bN | apply bD | apply bA)); refine blk_put (cs := #[.int .i64 t374, .int .i64 t375, .int .i64 t376, .int .i64 t377, .slice none 0 0]) ?_ 4 _ rfl; (with_reducible repeat (first | apply bN | apply bD | apply bA)); refine blk_put (cs := #[.int .i64 t374, .int .i64 t375, .int .i64 t376, .int .i64 0, .slice none 0 0]) ?_ 3 _ rfl; (with_reducible repeat (first | apply bN | apply bD | apply bA)); refine blk_put (cs := #[.int .i64 t374, .int .i64 t375, .int .i64 0, .int .i64 0, .slice none 0 0]) ?_ 2 _ rfl; (with_reducible repeat (first | apply bN | apply bD | apply bA)); refine blk_put (cs := #[.int .i64 t374, .int .i64 0, .int .i64 0, .int .i64 0, .slice none 0 0]) ?_ 1 _ rfl; (with_reducible repeat (first | apply bN | apply bD | apply bA)); refine blk_put (cs := #[.int .i64 0, .int .i64 0, .int .i64 0, .int .i64 0, .slice none 0 0]) ?_ 0 _ rfl; (with_reducible repeat (first | apply bN | apply bD | apply bA)); exact BK381.out) hb)) (sB HB hb)); clear HO380 BK381 HB; obtain ⟨HO380, BK381, HB⟩ := n_; (try clear hb)) | ((with_reducible refine gate_callee (f := 12) rfl ?_); refine gL (some 18) Try.func12 #[.string t382] ?_; (with_reducible refine (impl_NodeOf.calls k t382 t383 t384 t385 t386 t387 t390 _ A6.out).mono ?_); rintro e w16 ⟨v388, rfl, ho0, hb⟩; refine ⟨_, rfl, ?_⟩; have n_ := aI (aM (Kd.R_elder' (rP HO380.out) (Kd.Q_base ho0) hb)) (aI (aM (Kd.Q_lower (Kd.Q_new' ho0 (rL HO380)) (zB HB))) (aI (kB BK381 hb) (sB HB hb))); clear HO380 BK381 HB; obtain ⟨HO380, HO389, BK381, HB⟩ := n_; (try clear hb ho0)) | ((with_reducible refine gate_dst (N := 4) rfl ?_); refine bE 4 #[.int .i64 0, .int .i64 0, .int .i64 0, .int .i64 0, .slice none 0 0] 33 ?_; intro gb391 hg w17 hbox hb; have n_ := aI (rB HO380 hb) (aI (aM (Kd.Q_below (by (with_reducible repeat (first | apply Kd.Q_alloc | apply Kd.Q_drewN | apply Kd.Q_drew)); exact HO389.out) hb)) (aI (kB BK381 hb) (aI (sB HB hb) (aI (aM hbox) (aI (gE HB hg) (aI (gE HB hg) (aI (nL BK381 hg) (nG BK381 hg)))))))); clear HO380 HO389 BK381 HB; obtain ⟨HO380, HO389, BK381, HB, BK391, GW391, GE391, NB381_391, NB391_381⟩ := n_; (try clear hb hbox hg); have hnb18 := NB391_381.out; have hnc18 := NB381_391.out; have hcz19_0 := cZ0 BK391; have hcz19_1 := cZ1 BK391; have hcz19_2 : w17.cell? ⟨gb391, 2, none⟩ = some (.int .i64 0) := (blk_cell BK391.out 2).trans rfl; have hcz19_3 : w17.cell? ⟨gb391, 3, none⟩ = some (.int .i64 0) := (blk_cell BK391.out 3).trans rfl; have hcz19_4 : w17.cell? ⟨gb391, 4, none⟩ = some (.slice none 0 0) := (blk_cell BK391.out 4).trans rfl; have hfz19_0 := fZ BK391 0; have hfz19_1 := fZ BK391 1; have hfz19_2 := fZ BK391 2; have hfz19_3 := fZ BK391 3; have hfz19_4 := fZ BK391 4; obtain ⟨Ao20, co20, eo20, _⟩ := Kd.Q_slice HO389.out; subst eo20) | ((with_reducible refine gate_callee (f := 19) rfl ?_); refine gL (some 22) Try.func19 #[.slice A0 l0.length c0] ?_; (with_reducible refine (spec_DrawNodeOf.calls k _ _ l0 t392 _ ?side1 ?side2 A7.out).mono ?_); (case side1 => exact cS HR0 HB); (case side2 => exact HC0.out); rintro e w21 ⟨rfl, hb⟩; refine ⟨_, rfl, ?_⟩; have n_ := aI (aM (Kd.R_below (rP (Kd.R_mono (Kd.R_far (p := ⟨gb391, 4, none⟩) (Kd.R_far (p := ⟨gb391, 3, none⟩) (Kd.R_far (p := ⟨gb391, 2, none⟩) (Kd.R_far (p := ⟨gb391, 1, none⟩) (Kd.R_far (p := ⟨gb391, 0, none⟩) (Kd.R_types HO380.out BK391.out (by decide)) (fun _ hk => hk.2) (.int .i64 t383)) (fun _ hk => hk.2) (.int .i64 t384)) (fun _ hk => hk.2) (.int .i64 t385)) (fun _ hk => hk.2) (.int .i64 t386)) (fun _ hk => hk.2) (.slice Ao20 t387.length co20)) (fun _ h_ => h_.1))) hb)) (aI (aM (Kd.Q_below (by (with_reducible repeat (first | apply Kd.Q_alloc | apply Kd.Q_drewN | apply Kd.Q_drew)); exact (Kd.Q_mono (Kd.Q_far (p := ⟨gb391, 4, none⟩) (Kd.Q_far (p := ⟨gb391, 3, none⟩) (Kd.Q_far (p := ⟨gb391, 2, none⟩) (Kd.Q_far (p := ⟨gb391, 1, none⟩) (Kd.Q_far (p := ⟨gb391, 0, none⟩) (Kd.Q_types HO389.out BK391.out (by decide)) (fun _ hk => hk.2) (.int .i64 t383)) (fun _ hk => hk.2) (.int .i64 t384)) (fun _ hk => hk.2) (.int .i64 t385)) (fun _ hk => hk.2) (.int .i64 t386)) (fun _ hk => hk.2) (.slice Ao20 t387.length co20)) (fun _ h_ => h_.1))) hb)) (aI (kB BK381 hb) (aI (aM (blk_below (g := gb391) (o := .cells #[.int .i64 t383, .int .i64 t384, .int .i64 t385, .int .i64 t386, .slice Ao20 t387.length co20] 33 (0, 0)) (by (with_reducible repeat (first | apply bN | apply bD | apply bA)); refine blk_put (cs := #[.int .i64 t383, .int .i64 t384, .int .i64 t385, .int .i64 t386, .slice none 0 0]) ?_ 4 _ rfl; (with_reducible repeat (first | apply bN | apply bD | apply bA)); refine blk_put (cs := #[.int .i64 t383, .int .i64 t384, .int .i64 t385, .int .i64 0, .slice none 0 0]) ?_ 3 _ rfl; (with_reducible repeat (first | apply bN | apply bD | apply bA)); refine blk_put (cs := #[.int .i64 t383, .int .i64 t384, .int .i64 0, .int .i64 0, .slice none 0 0]) ?_ 2 _ rfl; (with_reducible repeat (first | apply bN | apply bD | apply bA)); refine blk_put (cs := #[.int .i64 t383, .int .i64 0, .int .i64 0, .int .i64 0, .slice none 0 0]) ?_ 1 _ rfl; (with_reducible repeat (first | apply bN | apply bD | apply bA)); refine blk_put (cs := #[.int .i64 0, .int .i64 0, .int .i64 0, .int .i64 0, .slice none 0 0]) ?_ 0 _ rfl; (with_reducible repeat (first | apply bN | apply bD | apply bA)); exact BK391.out) hb)) (sB HB hb)))); clear HO380 HO389 BK381 BK391 HB; obtain ⟨HO380, HO389, BK381, BK391, HB⟩ := n_; (try clear hb)) | ((with_reducible refine gate_callee (f := 12) rfl ?_); refine gL (some 25) Try.func12 #[.string t392] ?_; (with_reducible refine (impl_NodeOf.calls k t392 t393 t394 t395 t396 t397 t400 _ A8.out).mono ?_); rintro e w22 ⟨v398, rfl, ho0, hb⟩; refine ⟨_, rfl, ?_⟩; have n_ := aI (aM (Kd.R_elder' (rP HO380.out) (Kd.Q_base ho0) hb)) (aI (aM (Kd.Q_elder' (by (with_reducible repeat (first | apply Kd.Q_alloc | apply Kd.Q_drewN | apply Kd.Q_drew)); exact HO389.out) (Kd.Q_base ho0) hb)) (aI (aM (Kd.Q_lower (Kd.Q_new' (Kd.Q_new' ho0 (rL HO380)) (Kd.Q_lt (by (with_reducible repeat (first | apply Kd.Q_alloc | apply Kd.Q_drewN | apply Kd.Q_drew)); exact HO389.out))) (zB HB))) (aI (kB BK381 hb) (aI (kB BK391 hb) (sB HB hb))))); clear HO380 HO389 BK381 BK391 HB; obtain ⟨HO380, HO389, HO399, BK381, BK391, HB⟩ := n_; (try clear hb ho0)) | ((with_reducible refine gate_dst (N := 7) rfl ?_); refine bE 7 #[.int .i64 0, .int .i64 0, .int .i64 0, .int .i64 0, .slice none 0 0] 33 ?_; intro gb401 hg w23 hbox hb; have n_ := aI (rB HO380 hb) (aI (aM (Kd.Q_below (by (with_reducible repeat (first | apply Kd.Q_alloc | apply Kd.Q_drewN | apply Kd.Q_drew)); exact HO389.out) hb)) (aI (aM (Kd.Q_below (by (with_reducible repeat (first | apply Kd.Q_alloc | apply Kd.Q_drewN | apply Kd.Q_drew)); exact HO399.out) hb)) (aI (kB BK381 hb) (aI (kB BK391 hb) (aI (sB HB hb) (aI (aM hbox) (aI (gE HB hg) (aI (gE HB hg) (aI (nL BK381 hg) (aI (nG BK381 hg) (aI (nL BK391 hg) (nG BK391 hg)))))))))))); clear HO380 HO389 HO399 BK381 BK391 HB; obtain ⟨HO380, HO389, HO399, BK381, BK391, HB, BK401, GW401, GE401, NB381_401, NB401_381, NB391_401, NB401_391⟩ := n_; (try clear hb hbox hg); have hnb24 := NB401_381.out; have hnc24 := NB381_401.out; have hnb25 := NB401_391.out; have hnc25 := NB391_401.out; have hcz26_0 := cZ0 BK401; have hcz26_1 := cZ1 BK401; have hcz26_2 : w23.cell? ⟨gb401, 2, none⟩ = some (.int .i64 0) := (blk_cell BK401.out 2).trans rfl; have hcz26_3 : w23.cell? ⟨gb401, 3, none⟩ = some (.int .i64 0) := (blk_cell BK401.out 3).trans rfl; have hcz26_4 : w23.cell? ⟨gb401, 4, none⟩ = some (.slice none 0 0) := (blk_cell BK401.out 4).trans rfl; have hfz26_0 := fZ BK401 0; have hfz26_1 := fZ BK401 1; have hfz26_2 := fZ BK401 2; have hfz26_3 := fZ BK401 3; have hfz26_4 := fZ BK401 4; obtain ⟨Ao27, co27, eo27, _⟩ := Kd.Q_slice HO399.out; subst eo27) | ((with_reducible refine gate_callee (f := 11) rfl ?_); refine gL (some 30) Try.func11 #[.string t392] ?_; (with_reducible refine (spec_NodeOf.calls k t392 t402 t403 t404 t405 t406 t409 _ A9.out).mono ?_); rintro e w28 ⟨v407, rfl, ho0, hb⟩; refine ⟨_, rfl, ?_⟩; have n_ := aI (aM (Kd.R_elder' (rP (Kd.R_mono (Kd.R_far (p := ⟨gb401, 4, none⟩) (Kd.R_far (p := ⟨gb401, 3, none⟩) (Kd.R_far (p := ⟨gb401, 2, none⟩) (Kd.R_far (p := ⟨gb401, 1, none⟩) (Kd.R_far (p := ⟨gb401, 0, none⟩) (Kd.R_types HO380.out BK401.out (by decide)) (fun _ hk => hk.2) (.int .i64 t393)) (fun _ hk => hk.2) (.int .i64 t394)) (fun _ hk => hk.2) (.int .i64 t395)) (fun _ hk => hk.2) (.int .i64 t396)) (fun _ hk => hk.2) (.slice Ao27 t397.length co27)) (fun _ h_ => h_.1))) (Kd.R_base ho0) hb)) (aI (aM (Kd.Q_elder' (by (with_reducible repeat (first | apply Kd.Q_alloc | apply Kd.Q_drewN | apply Kd.Q_drew)); exact (Kd.Q_mono (Kd.Q_far (p := ⟨gb401, 4, none⟩) (Kd.Q_far (p := ⟨gb401, 3, none⟩) (Kd.Q_far (p := ⟨gb401, 2, none⟩) (Kd.Q_far (p := ⟨gb401, 1, none⟩) (Kd.Q_far (p := ⟨gb401, 0, none⟩) (Kd.Q_types HO389.out BK401.out (by decide)) (fun _ hk => hk.2) (.int .i64 t393)) (fun _ hk => hk.2) (.int .i64 t394)) (fun _ hk => hk.2) (.int .i64 t395)) (fun _ hk => hk.2) (.int .i64 t396)) (fun _ hk => hk.2) (.slice Ao27 t397.length co27)) (fun _ h_ => h_.1))) (Kd.R_base ho0) hb)) (aI (aM (Kd.Q_elder' (by (with_reducible repeat (first | apply Kd.Q_alloc | apply Kd.Q_drewN | apply Kd.Q_drew)); exact (Kd.Q_mono (Kd.Q_far (p := ⟨gb401, 4, none⟩) (Kd.Q_far (p := ⟨gb401, 3, none⟩) (Kd.Q_far (p := ⟨gb401, 2, none⟩) (Kd.Q_far (p := ⟨gb401, 1, none⟩) (Kd.Q_far (p := ⟨gb401, 0, none⟩) (Kd.Q_types HO399.out BK401.out (by decide)) (fun _ hk => hk.2) (.int .i64 t393)) (fun _ hk => hk.2) (.int .i64 t394)) (fun _ hk => hk.2) (.int .i64 t395)) (fun _ hk => hk.2) (.int .i64 t396)) (fun _ hk => hk.2) (.slice Ao27 t397.length co27)) (fun _ h_ => h_.1))) (Kd.R_base ho0) hb)) (aI (aM (Kd.R_lower (Kd.R_new' (Kd.R_new' (Kd.R_new' ho0 (Kd.R_lt (rP (Kd.R_mono (Kd.R_far (p := ⟨gb401, 4, none⟩) (Kd.R_far (p := ⟨gb401, 3, none⟩) (Kd.R_far (p := ⟨gb401, 2, none⟩) (Kd.R_far (p := ⟨gb401, 1, none⟩) (Kd.R_far (p := ⟨gb401, 0, none⟩) (Kd.R_types HO380.out BK401.out (by decide)) (fun _ hk => hk.2) (.int .i64 t393)) (fun _ hk => hk.2) (.int .i64 t394)) (fun _ hk => hk.2) (.int .i64 t395)) (fun _ hk => hk.2) (.int .i64 t396)) (fun _ hk => hk.2) (.slice Ao27 t397.length co27)) (fun _ h_ => h_.1))))) (Kd.Q_lt (by (with_reducible repeat (first | apply Kd.Q_alloc | apply Kd.Q_drewN | apply Kd.Q_drew)); exact (Kd.Q_mono (Kd.Q_far (p := ⟨gb401, 4, none⟩) (Kd.Q_far (p := ⟨gb401, 3, none⟩) (Kd.Q_far (p := ⟨gb401, 2, none⟩) (Kd.Q_far (p := ⟨gb401, 1, none⟩) (Kd.Q_far (p := ⟨gb401, 0, none⟩) (Kd.Q_types HO389.out BK401.out (by decide)) (fun _ hk => hk.2) (.int .i64 t393)) (fun _ hk => hk.2) (.int .i64 t394)) (fun _ hk => hk.2) (.int .i64 t395)) (fun _ hk => hk.2) (.int .i64 t396)) (fun _ hk => hk.2) (.slice Ao27 t397.length co27)) (fun _ h_ => h_.1))))) (Kd.Q_lt (by (with_reducible repeat (first | apply Kd.Q_alloc | apply Kd.Q_drewN | apply Kd.Q_drew)); exact (Kd.Q_mono (Kd.Q_far (p := ⟨gb401, 4, none⟩) (Kd.Q_far (p := ⟨gb401, 3, none⟩) (Kd.Q_far (p := ⟨gb401, 2, none⟩) (Kd.Q_far (p := ⟨gb401, 1, none⟩) (Kd.Q_far (p := ⟨gb401, 0, none⟩) (Kd.Q_types HO399.out BK401.out (by decide)) (fun _ hk => hk.2) (.int .i64 t393)) (fun _ hk => hk.2) (.int .i64 t394)) (fun _ hk => hk.2) (.int .i64 t395)) (fun _ hk => hk.2) (.int .i64 t396)) (fun _ hk => hk.2) (.slice Ao27 t397.length co27)) (fun _ h_ => h_.1))))) (zB HB))) (aI (kB BK381 hb) (aI (kB BK391 hb) (aI (aM (blk_below (g := gb401) (o := .cells #[.int .i64 t393, .int .i64 t394, .int .i64 t395, .int .i64 t396, .slice Ao27 t397.length co27] 33 (0, 0)) (by (with_reducible repeat (first | apply bN | apply bD | apply bA)); refine blk_put (cs := #[.int .i64 t393, .int .i64 t394, .int .i64 t395, .int .i64 t396, .slice none 0 0]) ?_ 4 _ rfl; (with_reducible repeat (first | apply bN | apply bD | apply bA)); refine blk_put (cs := #[.int .i64 t393, .int .i64 t394, .int .i64 t395, .int .i64 0, .slice none 0 0]) ?_ 3 _ rfl; (with_reducible repeat (first | apply bN | apply bD | apply bA)); refine blk_put (cs := #[.int .i64 t393, .int .i64 t394, .int .i64 0, .int .i64 0, .slice none 0 0]) ?_ 2 _ rfl; (with_reducible repeat (first | apply bN | apply bD | apply bA)); refine blk_put (cs := #[.int .i64 t393, .int .i64 0, .int .i64 0, .int .i64 0, .slice none 0 0]) ?_ 1 _ rfl; (with_reducible repeat (first | apply bN | apply bD | apply bA)); refine blk_put (cs := #[.int .i64 0, .int .i64 0, .int .i64 0, .int .i64 0, .slice none 0 0]) ?_ 0 _ rfl; (with_reducible repeat (first | apply bN | apply bD | apply bA)); exact BK401.out) hb)) (sB HB hb))))))); clear HO380 HO389 HO399 BK381 BK391 BK401 HB; obtain ⟨HO380, HO389, HO399, HO408, BK381, BK391, BK401, HB⟩ := n_; (try clear hb ho0)) | ((with_reducible refine gate_dst (N := 9) rfl ?_); refine bE 9 #[.int .i64 0, .int .i64 0, .int .i64 0, .int .i64 0, .slice none 0 0] 33 ?_; intro gb410 hg w29 hbox hb; have n_ := aI (rB HO380 hb) (aI (aM (Kd.Q_below (by (with_reducible repeat (first | apply Kd.Q_alloc | apply Kd.Q_drewN | apply Kd.Q_drew)); exact HO389.out) hb)) (aI (aM (Kd.Q_below (by (with_reducible repeat (first | apply Kd.Q_alloc | apply Kd.Q_drewN | apply Kd.Q_drew)); exact HO399.out) hb)) (aI (rB HO408 hb) (aI (kB BK381 hb) (aI (kB BK391 hb) (aI (kB BK401 hb) (aI (sB HB hb) (aI (aM hbox) (aI (gE HB hg) (aI (gE HB hg) (aI (nL BK381 hg) (aI (nG BK381 hg) (aI (nL BK391 hg) (aI (nG BK391 hg) (aI (nL BK401 hg) (nG BK401 hg)))))))))))))))); clear HO380 HO389 HO399 HO408 BK381 BK391 BK401 HB; obtain ⟨HO380, HO389, HO399, HO408, BK381, BK391, BK401, HB, BK410, GW410, GE410, NB381_410, NB410_381, NB391_410, NB410_391, NB401_410, NB410_401⟩ := n_; (try clear hb hbox hg); have hnb30 := NB410_381.out; have hnc30 := NB381_410.out; have hnb31 := NB410_391.out; have hnc31 := NB391_410.out; have hnb32 := NB410_401.out; have hnc32 := NB401_410.out; have hcz33_0 := cZ0 BK410; have hcz33_1 := cZ1 BK410; have hcz33_2 : w29.cell? ⟨gb410, 2, none⟩ = some (.int .i64 0) := (blk_cell BK410.out 2).trans rfl; have hcz33_3 : w29.cell? ⟨gb410, 3, none⟩ = some (.int .i64 0) := (blk_cell BK410.out 3).trans rfl; have hcz33_4 : w29.cell? ⟨gb410, 4, none⟩ = some (.slice none 0 0) := (blk_cell BK410.out 4).trans rfl; have hfz33_0 := fZ BK410 0; have hfz33_1 := fZ BK410 1; have hfz33_2 := fZ BK410 2; have hfz33_3 := fZ BK410 3; have hfz33_4 := fZ BK410 4; obtain ⟨Ao34, co34, eo34⟩ := Kd.R_slice HO408.out; subst eo34))
 (try simp only [Act.put, List.setIfInBounds_toArray, List.set_cons_zero, List.set_cons_succ])
 go_cut [50] (fun v50 wc => ∃ (kq : Nat) (x50_9 : Bool), v50 = .bool x50_9 ∧ Aside0 (laws_FnNodes.j0 kq t392 t400 x50_9 t393 t394 t395 t396 t397 = some r) ∧ Aside0 (kq ≤ k) ∧ Aside0 (Kd.Q (Kd.int .i64) 3 wc w.heap.size (fun k_ => some k_ ≠ ((.slice Ao20 t387.length co20) : Value).ownBlock ∧ some k_ ≠ ((.slice Ao27 t397.length co27) : Value).ownBlock ∧ some k_ ≠ ((.slice Ao34 t406.length co34) : Value).ownBlock) (.slice Ao14 t378.length co14) t378) ∧ Aside0 (Kd.Q (Kd.int .i64) 3 wc w.heap.size (fun k_ => some k_ ≠ ((.slice Ao14 t378.length co14) : Value).ownBlock ∧ some k_ ≠ ((.slice Ao27 t397.length co27) : Value).ownBlock ∧ some k_ ≠ ((.slice Ao34 t406.length co34) : Value).ownBlock) (.slice Ao20 t387.length co20) t387) ∧ Aside0 (Kd.Q (Kd.int .i64) 3 wc w.heap.size (fun k_ => some k_ ≠ ((.slice Ao14 t378.length co14) : Value).ownBlock ∧ some k_ ≠ ((.slice Ao20 t387.length co20) : Value).ownBlock ∧ some k_ ≠ ((.slice Ao34 t406.length co34) : Value).ownBlock) (.slice Ao27 t397.length co27) t397) ∧ Aside0 (Kd.Q (Kd.int .i64) 3 wc w.heap.size (fun k_ => some k_ ≠ ((.slice Ao14 t378.length co14) : Value).ownBlock ∧ some k_ ≠ ((.slice Ao20 t387.length co20) : Value).ownBlock ∧ some k_ ≠ ((.slice Ao27 t397.length co27) : Value).ownBlock) (.slice Ao34 t406.length co34) t406) ∧ Aside0 (wc.heap[gb381]? = some (.cells #[.int .i64 t374, .int .i64 t375, .int .i64 t376, .int .i64 t377, (.slice Ao14 t378.length co14)] 33 (0, 0))) ∧ Aside0 (wc.heap[gb391]? = some (.cells #[.int .i64 t383, .int .i64 t384, .int .i64 t385, .int .i64 t386, (.slice Ao20 t387.length co20)] 33 (0, 0))) ∧ Aside0 (wc.heap[gb401]? = some (.cells #[.int .i64 t393, .int .i64 t394, .int .i64 t395, .int .i64 t396, (.slice Ao27 t397.length co27)] 33 (0, 0))) ∧ Aside0 (wc.heap[gb410]? = some (.cells #[.int .i64 t402, .int .i64 t403, .int .i64 t404, .int .i64 t405, (.slice Ao34 t406.length co34)] 33 (0, 0))) ∧ Aside0 (Below w.heap.size w wc))
 case first =>
  have H := HC10.out
  clear HC10
  replace H := Option.bind_eq_some_iff.mp H
  obtain ⟨t411, A350, H⟩ := H
  try dsimp only at H
  have A35 := aM A350
  clear A350
  by_cases c36 : (t390 != t411) = true
  ·rw [if_pos c36] at H
   have c36b0 : (t390 != t411) = true := c36
   (try (have c36b1 : decide (t390 = t411) = false := by simpa using c36))
   (try (have c36b2 : (t390 == t411) = false := by simpa using c36))
   (try (have c36b3 : ¬ (t390 = t411) := by simpa using c36))
   clear c36
   (first | rw [c36b0] | (simp only [i64_w, i32_w]; rw [c36b0]) | rw [c36b1] | rw [c36b2] | skip)
   have H' := aM H
   clear H
   have hnb37 := NB381_391.out
   have hnc37 := NB391_381.out
   have hnb38 := NB381_401.out
   have hnc38 := NB401_381.out
   have hnb39 := NB381_410.out
   have hnc39 := NB410_381.out
   have hcz40_0 := cZ0 BK381
   have hcz40_1 := cZ1 BK381
   have hcz40_2 : w29.cell? ⟨gb381, 2, none⟩ = some (.int .i64 t376) := (blk_cell BK381.out 2).trans rfl
   have hcz40_3 : w29.cell? ⟨gb381, 3, none⟩ = some (.int .i64 t377) := (blk_cell BK381.out 3).trans rfl
   have hcz40_4 : w29.cell? ⟨gb381, 4, none⟩ = some (.slice Ao14 t378.length co14) := (blk_cell BK381.out 4).trans rfl
   have hfz40_0 := fZ BK381 0
   have hfz40_1 := fZ BK381 1
   have hfz40_2 := fZ BK381 2
   have hfz40_3 := fZ BK381 3
   have hfz40_4 := fZ BK381 4
   go_wp2_with (first | ((with_reducible refine gate_callee (f := 20) rfl ?_); refine gL (some 35) Try.func20 #[.agg #[.int .i64 t374, .int .i64 t375, .int .i64 t376, .int .i64 t377, .slice Ao14 t378.length co14]] ?_; (with_reducible refine (spec_NodeOk.calls k t374 t375 t376 t377 _ _ t378 t411 _ ?side1 ?side2 A35.out).mono ?_); (case side1 => refine (Kd.R_reads' (e := 3) (base := w.heap.size) (ok := fun k_ => (((True ∧ some k_ ≠ (.slice Ao20 t387.length co20 : Value).ownBlock) ∧ some k_ ≠ (.slice Ao27 t397.length co27 : Value).ownBlock) ∧ some k_ ≠ (.slice Ao34 t406.length co34 : Value).ownBlock)) (n := t378.length) (c := co14) ?_).2.2; exact (rP (Kd.R_mono (Kd.R_far (p := ⟨gb410, 4, none⟩) (Kd.R_far (p := ⟨gb410, 3, none⟩) (Kd.R_far (p := ⟨gb410, 2, none⟩) (Kd.R_far (p := ⟨gb410, 1, none⟩) (Kd.R_far (p := ⟨gb410, 0, none⟩) (Kd.R_types HO380.out BK410.out (by decide)) (fun _ hk => hk.2) (.int .i64 t402)) (fun _ hk => hk.2) (.int .i64 t403)) (fun _ hk => hk.2) (.int .i64 t404)) (fun _ hk => hk.2) (.int .i64 t405)) (fun _ hk => hk.2) (.slice Ao34 t406.length co34)) (fun _ h_ => h_.1)))); (case side2 => exact (Kd.R_reads' HO380.out).2.1); rintro e w41 ⟨rfl, hb⟩; refine ⟨_, rfl, ?_⟩; have n_ := aI (aM (Kd.R_below (rP (Kd.R_mono (Kd.R_far (p := ⟨gb410, 4, none⟩) (Kd.R_far (p := ⟨gb410, 3, none⟩) (Kd.R_far (p := ⟨gb410, 2, none⟩) (Kd.R_far (p := ⟨gb410, 1, none⟩) (Kd.R_far (p := ⟨gb410, 0, none⟩) (Kd.R_types HO380.out BK410.out (by decide)) (fun _ hk => hk.2) (.int .i64 t402)) (fun _ hk => hk.2) (.int .i64 t403)) (fun _ hk => hk.2) (.int .i64 t404)) (fun _ hk => hk.2) (.int .i64 t405)) (fun _ hk => hk.2) (.slice Ao34 t406.length co34)) (fun _ h_ => h_.1))) hb)) (aI (aM (Kd.Q_below (by (with_reducible repeat (first | apply Kd.Q_alloc | apply Kd.Q_drewN | apply Kd.Q_drew)); exact (Kd.Q_mono (Kd.Q_far (p := ⟨gb410, 4, none⟩) (Kd.Q_far (p := ⟨gb410, 3, none⟩) (Kd.Q_far (p := ⟨gb410, 2, none⟩) (Kd.Q_far (p := ⟨gb410, 1, none⟩) (Kd.Q_far (p := ⟨gb410, 0, none⟩) (Kd.Q_types HO389.out BK410.out (by decide)) (fun _ hk => hk.2) (.int .i64 t402)) (fun _ hk => hk.2) (.int .i64 t403)) (fun _ hk => hk.2) (.int .i64 t404)) (fun _ hk => hk.2) (.int .i64 t405)) (fun _ hk => hk.2) (.slice Ao34 t406.length co34)) (fun _ h_ => h_.1))) hb)) (aI (aM (Kd.Q_below (by (with_reducible repeat (first | apply Kd.Q_alloc | apply Kd.Q_drewN | apply Kd.Q_drew)); exact (Kd.Q_mono (Kd.Q_far (p := ⟨gb410, 4, none⟩) (Kd.Q_far (p := ⟨gb410, 3, none⟩) (Kd.Q_far (p := ⟨gb410, 2, none⟩) (Kd.Q_far (p := ⟨gb410, 1, none⟩) (Kd.Q_far (p := ⟨gb410, 0, none⟩) (Kd.Q_types HO399.out BK410.out (by decide)) (fun _ hk => hk.2) (.int .i64 t402)) (fun _ hk => hk.2) (.int .i64 t403)) (fun _ hk => hk.2) (.int .i64 t404)) (fun _ hk => hk.2) (.int .i64 t405)) (fun _ hk => hk.2) (.slice Ao34 t406.length co34)) (fun _ h_ => h_.1))) hb)) (aI (aM (Kd.R_below (rP (Kd.R_mono (Kd.R_far (p := ⟨gb410, 4, none⟩) (Kd.R_far (p := ⟨gb410, 3, none⟩) (Kd.R_far (p := ⟨gb410, 2, none⟩) (Kd.R_far (p := ⟨gb410, 1, none⟩) (Kd.R_far (p := ⟨gb410, 0, none⟩) (Kd.R_types HO408.out BK410.out (by decide)) (fun _ hk => hk.2) (.int .i64 t402)) (fun _ hk => hk.2) (.int .i64 t403)) (fun _ hk => hk.2) (.int .i64 t404)) (fun _ hk => hk.2) (.int .i64 t405)) (fun _ hk => hk.2) (.slice Ao34 t406.length co34)) (fun _ h_ => h_.1))) hb)) (aI (kB BK381 hb) (aI (kB BK391 hb) (aI (kB BK401 hb) (aI (aM (blk_below (g := gb410) (o := .cells #[.int .i64 t402, .int .i64 t403, .int .i64 t404, .int .i64 t405, .slice Ao34 t406.length co34] 33 (0, 0)) (by (with_reducible repeat (first | apply bN | apply bD | apply bA)); refine blk_put (cs := #[.int .i64 t402, .int .i64 t403, .int .i64 t404, .int .i64 t405, .slice none 0 0]) ?_ 4 _ rfl; (with_reducible repeat (first | apply bN | apply bD | apply bA)); refine blk_put (cs := #[.int .i64 t402, .int .i64 t403, .int .i64 t404, .int .i64 0, .slice none 0 0]) ?_ 3 _ rfl; (with_reducible repeat (first | apply bN | apply bD | apply bA)); refine blk_put (cs := #[.int .i64 t402, .int .i64 t403, .int .i64 0, .int .i64 0, .slice none 0 0]) ?_ 2 _ rfl; (with_reducible repeat (first | apply bN | apply bD | apply bA)); refine blk_put (cs := #[.int .i64 t402, .int .i64 0, .int .i64 0, .int .i64 0, .slice none 0 0]) ?_ 1 _ rfl; (with_reducible repeat (first | apply bN | apply bD | apply bA)); refine blk_put (cs := #[.int .i64 0, .int .i64 0, .int .i64 0, .int .i64 0, .slice none 0 0]) ?_ 0 _ rfl; (with_reducible repeat (first | apply bN | apply bD | apply bA)); exact BK410.out) hb)) (sB HB hb)))))))); clear HO380 HO389 HO399 HO408 BK381 BK391 BK401 BK410 HB; obtain ⟨HO380, HO389, HO399, HO408, BK381, BK391, BK401, BK410, HB⟩ := n_; (try clear hb)))
   go_meet
   case rel => exact ⟨_, (true), (by first | rfl | (simp; done) | (simp [*]; done) | (simp; exact (by intro l_; cases l_ <;> rfl : ∀ l_ : List UInt8, l_.isEmpty = !(l_ != [])) _)), H', ⟨by first | omega | exact Nat.le_refl _⟩, ⟨Kd.Q_of_R (rP (Kd.R_mono HO380.out (fun _ hk => ⟨hk.1.1.2, ⟨hk.1.2, hk.2⟩⟩)))⟩, ⟨by (with_reducible repeat (first | apply Kd.Q_alloc | apply Kd.Q_drewN | apply Kd.Q_drew)); exact Kd.Q_mono HO389.out (fun _ hk => ⟨hk.1.1.2, ⟨hk.1.2, hk.2⟩⟩)⟩, ⟨by (with_reducible repeat (first | apply Kd.Q_alloc | apply Kd.Q_drewN | apply Kd.Q_drew)); exact Kd.Q_mono HO399.out (fun _ hk => ⟨hk.1.1.2, ⟨hk.1.2, hk.2⟩⟩)⟩, ⟨Kd.Q_of_R (rP (Kd.R_mono HO408.out (fun _ hk => ⟨hk.1.1.2, ⟨hk.1.2, hk.2⟩⟩)))⟩, ⟨kP BK381⟩, ⟨kP BK391⟩, ⟨kP BK401⟩, ⟨kP BK410⟩, ⟨bB⟩⟩
  rw [if_neg c36] at H
  have c36b0 : (t390 != t411) = false := by simpa using c36
  (try (have c36b1 : decide (t390 = t411) = true := by simpa using c36))
  (try (have c36b2 : (t390 == t411) = true := by simpa using c36))
  clear c36
  (first | rw [c36b0] | (simp only [i64_w, i32_w]; rw [c36b0]) | rw [c36b1] | rw [c36b2] | skip)
  by_cases c42 : t390 = true
  ·subst c42
   rw [if_pos rfl] at H
   replace H := Option.bind_eq_some_iff.mp H
   obtain ⟨t412, A430, H⟩ := H
   try dsimp only at H
   have A43 := aM A430
   clear A430
   by_cases c44 : t412 = true
   ·subst c44
    rw [if_pos rfl] at H
    have H' := aM H
    clear H
    have hnb45 := NB381_391.out
    have hnc45 := NB391_381.out
    have hnb46 := NB381_401.out
    have hnc46 := NB401_381.out
    have hnb47 := NB381_410.out
    have hnc47 := NB410_381.out
    have hcz48_0 := cZ0 BK381
    have hcz48_1 := cZ1 BK381
    have hcz48_2 : w29.cell? ⟨gb381, 2, none⟩ = some (.int .i64 t376) := (blk_cell BK381.out 2).trans rfl
    have hcz48_3 : w29.cell? ⟨gb381, 3, none⟩ = some (.int .i64 t377) := (blk_cell BK381.out 3).trans rfl
    have hcz48_4 : w29.cell? ⟨gb381, 4, none⟩ = some (.slice Ao14 t378.length co14) := (blk_cell BK381.out 4).trans rfl
    have hfz48_0 := fZ BK381 0
    have hfz48_1 := fZ BK381 1
    have hfz48_2 := fZ BK381 2
    have hfz48_3 := fZ BK381 3
    have hfz48_4 := fZ BK381 4
    go_wp2_with (first | ((with_reducible refine gate_callee (f := 20) rfl ?_); refine gL (some 35) Try.func20 #[.agg #[.int .i64 t374, .int .i64 t375, .int .i64 t376, .int .i64 t377, .slice Ao14 t378.length co14]] ?_; (with_reducible refine (spec_NodeOk.calls k t374 t375 t376 t377 _ _ t378 t411 _ ?side1 ?side2 A35.out).mono ?_); (case side1 => refine (Kd.R_reads' (e := 3) (base := w.heap.size) (ok := fun k_ => (((True ∧ some k_ ≠ (.slice Ao20 t387.length co20 : Value).ownBlock) ∧ some k_ ≠ (.slice Ao27 t397.length co27 : Value).ownBlock) ∧ some k_ ≠ (.slice Ao34 t406.length co34 : Value).ownBlock)) (n := t378.length) (c := co14) ?_).2.2; exact (rP (Kd.R_mono (Kd.R_far (p := ⟨gb410, 4, none⟩) (Kd.R_far (p := ⟨gb410, 3, none⟩) (Kd.R_far (p := ⟨gb410, 2, none⟩) (Kd.R_far (p := ⟨gb410, 1, none⟩) (Kd.R_far (p := ⟨gb410, 0, none⟩) (Kd.R_types HO380.out BK410.out (by decide)) (fun _ hk => hk.2) (.int .i64 t402)) (fun _ hk => hk.2) (.int .i64 t403)) (fun _ hk => hk.2) (.int .i64 t404)) (fun _ hk => hk.2) (.int .i64 t405)) (fun _ hk => hk.2) (.slice Ao34 t406.length co34)) (fun _ h_ => h_.1)))); (case side2 => exact (Kd.R_reads' HO380.out).2.1); rintro e w49 ⟨rfl, hb⟩; refine ⟨_, rfl, ?_⟩; have n_ := aI (aM (Kd.R_below (rP (Kd.R_mono (Kd.R_far (p := ⟨gb410, 4, none⟩) (Kd.R_far (p := ⟨gb410, 3, none⟩) (Kd.R_far (p := ⟨gb410, 2, none⟩) (Kd.R_far (p := ⟨gb410, 1, none⟩) (Kd.R_far (p := ⟨gb410, 0, none⟩) (Kd.R_types HO380.out BK410.out (by decide)) (fun _ hk => hk.2) (.int .i64 t402)) (fun _ hk => hk.2) (.int .i64 t403)) (fun _ hk => hk.2) (.int .i64 t404)) (fun _ hk => hk.2) (.int .i64 t405)) (fun _ hk => hk.2) (.slice Ao34 t406.length co34)) (fun _ h_ => h_.1))) hb)) (aI (aM (Kd.Q_below (by (with_reducible repeat (first | apply Kd.Q_alloc | apply Kd.Q_drewN | apply Kd.Q_drew)); exact (Kd.Q_mono (Kd.Q_far (p := ⟨gb410, 4, none⟩) (Kd.Q_far (p := ⟨gb410, 3, none⟩) (Kd.Q_far (p := ⟨gb410, 2, none⟩) (Kd.Q_far (p := ⟨gb410, 1, none⟩) (Kd.Q_far (p := ⟨gb410, 0, none⟩) (Kd.Q_types HO389.out BK410.out (by decide)) (fun _ hk => hk.2) (.int .i64 t402)) (fun _ hk => hk.2) (.int .i64 t403)) (fun _ hk => hk.2) (.int .i64 t404)) (fun _ hk => hk.2) (.int .i64 t405)) (fun _ hk => hk.2) (.slice Ao34 t406.length co34)) (fun _ h_ => h_.1))) hb)) (aI (aM (Kd.Q_below (by (with_reducible repeat (first | apply Kd.Q_alloc | apply Kd.Q_drewN | apply Kd.Q_drew)); exact (Kd.Q_mono (Kd.Q_far (p := ⟨gb410, 4, none⟩) (Kd.Q_far (p := ⟨gb410, 3, none⟩) (Kd.Q_far (p := ⟨gb410, 2, none⟩) (Kd.Q_far (p := ⟨gb410, 1, none⟩) (Kd.Q_far (p := ⟨gb410, 0, none⟩) (Kd.Q_types HO399.out BK410.out (by decide)) (fun _ hk => hk.2) (.int .i64 t402)) (fun _ hk => hk.2) (.int .i64 t403)) (fun _ hk => hk.2) (.int .i64 t404)) (fun _ hk => hk.2) (.int .i64 t405)) (fun _ hk => hk.2) (.slice Ao34 t406.length co34)) (fun _ h_ => h_.1))) hb)) (aI (aM (Kd.R_below (rP (Kd.R_mono (Kd.R_far (p := ⟨gb410, 4, none⟩) (Kd.R_far (p := ⟨gb410, 3, none⟩) (Kd.R_far (p := ⟨gb410, 2, none⟩) (Kd.R_far (p := ⟨gb410, 1, none⟩) (Kd.R_far (p := ⟨gb410, 0, none⟩) (Kd.R_types HO408.out BK410.out (by decide)) (fun _ hk => hk.2) (.int .i64 t402)) (fun _ hk => hk.2) (.int .i64 t403)) (fun _ hk => hk.2) (.int .i64 t404)) (fun _ hk => hk.2) (.int .i64 t405)) (fun _ hk => hk.2) (.slice Ao34 t406.length co34)) (fun _ h_ => h_.1))) hb)) (aI (kB BK381 hb) (aI (kB BK391 hb) (aI (kB BK401 hb) (aI (aM (blk_below (g := gb410) (o := .cells #[.int .i64 t402, .int .i64 t403, .int .i64 t404, .int .i64 t405, .slice Ao34 t406.length co34] 33 (0, 0)) (by (with_reducible repeat (first | apply bN | apply bD | apply bA)); refine blk_put (cs := #[.int .i64 t402, .int .i64 t403, .int .i64 t404, .int .i64 t405, .slice none 0 0]) ?_ 4 _ rfl; (with_reducible repeat (first | apply bN | apply bD | apply bA)); refine blk_put (cs := #[.int .i64 t402, .int .i64 t403, .int .i64 t404, .int .i64 0, .slice none 0 0]) ?_ 3 _ rfl; (with_reducible repeat (first | apply bN | apply bD | apply bA)); refine blk_put (cs := #[.int .i64 t402, .int .i64 t403, .int .i64 0, .int .i64 0, .slice none 0 0]) ?_ 2 _ rfl; (with_reducible repeat (first | apply bN | apply bD | apply bA)); refine blk_put (cs := #[.int .i64 t402, .int .i64 0, .int .i64 0, .int .i64 0, .slice none 0 0]) ?_ 1 _ rfl; (with_reducible repeat (first | apply bN | apply bD | apply bA)); refine blk_put (cs := #[.int .i64 0, .int .i64 0, .int .i64 0, .int .i64 0, .slice none 0 0]) ?_ 0 _ rfl; (with_reducible repeat (first | apply bN | apply bD | apply bA)); exact BK410.out) hb)) (sB HB hb)))))))); clear HO380 HO389 HO399 HO408 BK381 BK391 BK401 BK410 HB; obtain ⟨HO380, HO389, HO399, HO408, BK381, BK391, BK401, BK410, HB⟩ := n_; (try clear hb); have hnb50 := NB391_401.out; have hnc50 := NB401_391.out; have hnb51 := NB391_410.out; have hnc51 := NB410_391.out; have hcz52_0 := cZ0 BK391; have hcz52_1 := cZ1 BK391; have hcz52_2 : w49.cell? ⟨gb391, 2, none⟩ = some (.int .i64 t385) := (blk_cell BK391.out 2).trans rfl; have hcz52_3 : w49.cell? ⟨gb391, 3, none⟩ = some (.int .i64 t386) := (blk_cell BK391.out 3).trans rfl; have hcz52_4 : w49.cell? ⟨gb391, 4, none⟩ = some (.slice Ao20 t387.length co20) := (blk_cell BK391.out 4).trans rfl; have hfz52_0 := fZ BK391 0; have hfz52_1 := fZ BK391 1; have hfz52_2 := fZ BK391 2; have hfz52_3 := fZ BK391 3; have hfz52_4 := fZ BK391 4; have hcz53_0 := cZ0 BK381; have hcz53_1 := cZ1 BK381; have hcz53_2 : w49.cell? ⟨gb381, 2, none⟩ = some (.int .i64 t376) := (blk_cell BK381.out 2).trans rfl; have hcz53_3 : w49.cell? ⟨gb381, 3, none⟩ = some (.int .i64 t377) := (blk_cell BK381.out 3).trans rfl; have hcz53_4 : w49.cell? ⟨gb381, 4, none⟩ = some (.slice Ao14 t378.length co14) := (blk_cell BK381.out 4).trans rfl; have hfz53_0 := fZ BK381 0; have hfz53_1 := fZ BK381 1; have hfz53_2 := fZ BK381 2; have hfz53_3 := fZ BK381 3; have hfz53_4 := fZ BK381 4) | (go_at_call 21; (with_reducible refine (spec_NodeSame.calls k t383 t384 t385 t386 _ _ t387 t374 t375 t376 t377 _ _ t378 true _ ?side1 ?side2 ?side3 ?side4 A43.out).mono ?_); (case side1 => repeat (first | exact (Kd.Q_reads' HO389.out).2.2 | (with_reducible refine Kd.C_alloc ?_ _) | (with_reducible refine Kd.C_drewN ?_ _) | (with_reducible refine Kd.C_drew ?_))); (case side2 => exact (Kd.Q_reads' HO389.out).2.1); (case side3 => exact cR HO380); (case side4 => exact (Kd.R_reads' HO380.out).2.1); rintro e w54 ⟨rfl, hb⟩; have n_ := aI (rB HO380 hb) (aI (aM (Kd.Q_below (by (with_reducible repeat (first | apply Kd.Q_alloc | apply Kd.Q_drewN | apply Kd.Q_drew)); exact HO389.out) hb)) (aI (aM (Kd.Q_below (by (with_reducible repeat (first | apply Kd.Q_alloc | apply Kd.Q_drewN | apply Kd.Q_drew)); exact HO399.out) hb)) (aI (rB HO408 hb) (aI (kB BK381 hb) (aI (kB BK391 hb) (aI (kB BK401 hb) (aI (kB BK410 hb) (sB HB hb)))))))); clear HO380 HO389 HO399 HO408 BK381 BK391 BK401 BK410 HB; obtain ⟨HO380, HO389, HO399, HO408, BK381, BK391, BK401, BK410, HB⟩ := n_; (try clear hb)))
    go_meet
    case rel => exact ⟨_, ((t400 != t409)), (by first | rfl | (simp; done) | (simp [*]; done) | (simp; exact (by intro l_; cases l_ <;> rfl : ∀ l_ : List UInt8, l_.isEmpty = !(l_ != [])) _)), H', ⟨by first | omega | exact Nat.le_refl _⟩, ⟨Kd.Q_of_R (rP (Kd.R_mono HO380.out (fun _ hk => ⟨hk.1.1.2, ⟨hk.1.2, hk.2⟩⟩)))⟩, ⟨by (with_reducible repeat (first | apply Kd.Q_alloc | apply Kd.Q_drewN | apply Kd.Q_drew)); exact Kd.Q_mono HO389.out (fun _ hk => ⟨hk.1.1.2, ⟨hk.1.2, hk.2⟩⟩)⟩, ⟨by (with_reducible repeat (first | apply Kd.Q_alloc | apply Kd.Q_drewN | apply Kd.Q_drew)); exact Kd.Q_mono HO399.out (fun _ hk => ⟨hk.1.1.2, ⟨hk.1.2, hk.2⟩⟩)⟩, ⟨Kd.Q_of_R (rP (Kd.R_mono HO408.out (fun _ hk => ⟨hk.1.1.2, ⟨hk.1.2, hk.2⟩⟩)))⟩, ⟨kP BK381⟩, ⟨kP BK391⟩, ⟨kP BK401⟩, ⟨kP BK410⟩, ⟨bB⟩⟩
   replace c44 := Bool.eq_false_iff.mpr c44
   subst c44
   rw [if_neg (show ¬ (false = true) by decide)] at H
   have H' := aM H
   clear H
   have hnb55 := NB381_391.out
   have hnc55 := NB391_381.out
   have hnb56 := NB381_401.out
   have hnc56 := NB401_381.out
   have hnb57 := NB381_410.out
   have hnc57 := NB410_381.out
   have hcz58_0 := cZ0 BK381
   have hcz58_1 := cZ1 BK381
   have hcz58_2 : w29.cell? ⟨gb381, 2, none⟩ = some (.int .i64 t376) := (blk_cell BK381.out 2).trans rfl
   have hcz58_3 : w29.cell? ⟨gb381, 3, none⟩ = some (.int .i64 t377) := (blk_cell BK381.out 3).trans rfl
   have hcz58_4 : w29.cell? ⟨gb381, 4, none⟩ = some (.slice Ao14 t378.length co14) := (blk_cell BK381.out 4).trans rfl
   have hfz58_0 := fZ BK381 0
   have hfz58_1 := fZ BK381 1
   have hfz58_2 := fZ BK381 2
   have hfz58_3 := fZ BK381 3
   have hfz58_4 := fZ BK381 4
   go_wp2_with (first | ((with_reducible refine gate_callee (f := 20) rfl ?_); refine gL (some 35) Try.func20 #[.agg #[.int .i64 t374, .int .i64 t375, .int .i64 t376, .int .i64 t377, .slice Ao14 t378.length co14]] ?_; (with_reducible refine (spec_NodeOk.calls k t374 t375 t376 t377 _ _ t378 t411 _ ?side1 ?side2 A35.out).mono ?_); (case side1 => refine (Kd.R_reads' (e := 3) (base := w.heap.size) (ok := fun k_ => (((True ∧ some k_ ≠ (.slice Ao20 t387.length co20 : Value).ownBlock) ∧ some k_ ≠ (.slice Ao27 t397.length co27 : Value).ownBlock) ∧ some k_ ≠ (.slice Ao34 t406.length co34 : Value).ownBlock)) (n := t378.length) (c := co14) ?_).2.2; exact (rP (Kd.R_mono (Kd.R_far (p := ⟨gb410, 4, none⟩) (Kd.R_far (p := ⟨gb410, 3, none⟩) (Kd.R_far (p := ⟨gb410, 2, none⟩) (Kd.R_far (p := ⟨gb410, 1, none⟩) (Kd.R_far (p := ⟨gb410, 0, none⟩) (Kd.R_types HO380.out BK410.out (by decide)) (fun _ hk => hk.2) (.int .i64 t402)) (fun _ hk => hk.2) (.int .i64 t403)) (fun _ hk => hk.2) (.int .i64 t404)) (fun _ hk => hk.2) (.int .i64 t405)) (fun _ hk => hk.2) (.slice Ao34 t406.length co34)) (fun _ h_ => h_.1)))); (case side2 => exact (Kd.R_reads' HO380.out).2.1); rintro e w59 ⟨rfl, hb⟩; refine ⟨_, rfl, ?_⟩; have n_ := aI (aM (Kd.R_below (rP (Kd.R_mono (Kd.R_far (p := ⟨gb410, 4, none⟩) (Kd.R_far (p := ⟨gb410, 3, none⟩) (Kd.R_far (p := ⟨gb410, 2, none⟩) (Kd.R_far (p := ⟨gb410, 1, none⟩) (Kd.R_far (p := ⟨gb410, 0, none⟩) (Kd.R_types HO380.out BK410.out (by decide)) (fun _ hk => hk.2) (.int .i64 t402)) (fun _ hk => hk.2) (.int .i64 t403)) (fun _ hk => hk.2) (.int .i64 t404)) (fun _ hk => hk.2) (.int .i64 t405)) (fun _ hk => hk.2) (.slice Ao34 t406.length co34)) (fun _ h_ => h_.1))) hb)) (aI (aM (Kd.Q_below (by (with_reducible repeat (first | apply Kd.Q_alloc | apply Kd.Q_drewN | apply Kd.Q_drew)); exact (Kd.Q_mono (Kd.Q_far (p := ⟨gb410, 4, none⟩) (Kd.Q_far (p := ⟨gb410, 3, none⟩) (Kd.Q_far (p := ⟨gb410, 2, none⟩) (Kd.Q_far (p := ⟨gb410, 1, none⟩) (Kd.Q_far (p := ⟨gb410, 0, none⟩) (Kd.Q_types HO389.out BK410.out (by decide)) (fun _ hk => hk.2) (.int .i64 t402)) (fun _ hk => hk.2) (.int .i64 t403)) (fun _ hk => hk.2) (.int .i64 t404)) (fun _ hk => hk.2) (.int .i64 t405)) (fun _ hk => hk.2) (.slice Ao34 t406.length co34)) (fun _ h_ => h_.1))) hb)) (aI (aM (Kd.Q_below (by (with_reducible repeat (first | apply Kd.Q_alloc | apply Kd.Q_drewN | apply Kd.Q_drew)); exact (Kd.Q_mono (Kd.Q_far (p := ⟨gb410, 4, none⟩) (Kd.Q_far (p := ⟨gb410, 3, none⟩) (Kd.Q_far (p := ⟨gb410, 2, none⟩) (Kd.Q_far (p := ⟨gb410, 1, none⟩) (Kd.Q_far (p := ⟨gb410, 0, none⟩) (Kd.Q_types HO399.out BK410.out (by decide)) (fun _ hk => hk.2) (.int .i64 t402)) (fun _ hk => hk.2) (.int .i64 t403)) (fun _ hk => hk.2) (.int .i64 t404)) (fun _ hk => hk.2) (.int .i64 t405)) (fun _ hk => hk.2) (.slice Ao34 t406.length co34)) (fun _ h_ => h_.1))) hb)) (aI (aM (Kd.R_below (rP (Kd.R_mono (Kd.R_far (p := ⟨gb410, 4, none⟩) (Kd.R_far (p := ⟨gb410, 3, none⟩) (Kd.R_far (p := ⟨gb410, 2, none⟩) (Kd.R_far (p := ⟨gb410, 1, none⟩) (Kd.R_far (p := ⟨gb410, 0, none⟩) (Kd.R_types HO408.out BK410.out (by decide)) (fun _ hk => hk.2) (.int .i64 t402)) (fun _ hk => hk.2) (.int .i64 t403)) (fun _ hk => hk.2) (.int .i64 t404)) (fun _ hk => hk.2) (.int .i64 t405)) (fun _ hk => hk.2) (.slice Ao34 t406.length co34)) (fun _ h_ => h_.1))) hb)) (aI (kB BK381 hb) (aI (kB BK391 hb) (aI (kB BK401 hb) (aI (aM (blk_below (g := gb410) (o := .cells #[.int .i64 t402, .int .i64 t403, .int .i64 t404, .int .i64 t405, .slice Ao34 t406.length co34] 33 (0, 0)) (by (with_reducible repeat (first | apply bN | apply bD | apply bA)); refine blk_put (cs := #[.int .i64 t402, .int .i64 t403, .int .i64 t404, .int .i64 t405, .slice none 0 0]) ?_ 4 _ rfl; (with_reducible repeat (first | apply bN | apply bD | apply bA)); refine blk_put (cs := #[.int .i64 t402, .int .i64 t403, .int .i64 t404, .int .i64 0, .slice none 0 0]) ?_ 3 _ rfl; (with_reducible repeat (first | apply bN | apply bD | apply bA)); refine blk_put (cs := #[.int .i64 t402, .int .i64 t403, .int .i64 0, .int .i64 0, .slice none 0 0]) ?_ 2 _ rfl; (with_reducible repeat (first | apply bN | apply bD | apply bA)); refine blk_put (cs := #[.int .i64 t402, .int .i64 0, .int .i64 0, .int .i64 0, .slice none 0 0]) ?_ 1 _ rfl; (with_reducible repeat (first | apply bN | apply bD | apply bA)); refine blk_put (cs := #[.int .i64 0, .int .i64 0, .int .i64 0, .int .i64 0, .slice none 0 0]) ?_ 0 _ rfl; (with_reducible repeat (first | apply bN | apply bD | apply bA)); exact BK410.out) hb)) (sB HB hb)))))))); clear HO380 HO389 HO399 HO408 BK381 BK391 BK401 BK410 HB; obtain ⟨HO380, HO389, HO399, HO408, BK381, BK391, BK401, BK410, HB⟩ := n_; (try clear hb); have hnb60 := NB391_401.out; have hnc60 := NB401_391.out; have hnb61 := NB391_410.out; have hnc61 := NB410_391.out; have hcz62_0 := cZ0 BK391; have hcz62_1 := cZ1 BK391; have hcz62_2 : w59.cell? ⟨gb391, 2, none⟩ = some (.int .i64 t385) := (blk_cell BK391.out 2).trans rfl; have hcz62_3 : w59.cell? ⟨gb391, 3, none⟩ = some (.int .i64 t386) := (blk_cell BK391.out 3).trans rfl; have hcz62_4 : w59.cell? ⟨gb391, 4, none⟩ = some (.slice Ao20 t387.length co20) := (blk_cell BK391.out 4).trans rfl; have hfz62_0 := fZ BK391 0; have hfz62_1 := fZ BK391 1; have hfz62_2 := fZ BK391 2; have hfz62_3 := fZ BK391 3; have hfz62_4 := fZ BK391 4; have hcz63_0 := cZ0 BK381; have hcz63_1 := cZ1 BK381; have hcz63_2 : w59.cell? ⟨gb381, 2, none⟩ = some (.int .i64 t376) := (blk_cell BK381.out 2).trans rfl; have hcz63_3 : w59.cell? ⟨gb381, 3, none⟩ = some (.int .i64 t377) := (blk_cell BK381.out 3).trans rfl; have hcz63_4 : w59.cell? ⟨gb381, 4, none⟩ = some (.slice Ao14 t378.length co14) := (blk_cell BK381.out 4).trans rfl; have hfz63_0 := fZ BK381 0; have hfz63_1 := fZ BK381 1; have hfz63_2 := fZ BK381 2; have hfz63_3 := fZ BK381 3; have hfz63_4 := fZ BK381 4) | (go_at_call 21; (with_reducible refine (spec_NodeSame.calls k t383 t384 t385 t386 _ _ t387 t374 t375 t376 t377 _ _ t378 false _ ?side1 ?side2 ?side3 ?side4 A43.out).mono ?_); (case side1 => repeat (first | exact (Kd.Q_reads' HO389.out).2.2 | (with_reducible refine Kd.C_alloc ?_ _) | (with_reducible refine Kd.C_drewN ?_ _) | (with_reducible refine Kd.C_drew ?_))); (case side2 => exact (Kd.Q_reads' HO389.out).2.1); (case side3 => exact cR HO380); (case side4 => exact (Kd.R_reads' HO380.out).2.1); rintro e w64 ⟨rfl, hb⟩; have n_ := aI (rB HO380 hb) (aI (aM (Kd.Q_below (by (with_reducible repeat (first | apply Kd.Q_alloc | apply Kd.Q_drewN | apply Kd.Q_drew)); exact HO389.out) hb)) (aI (aM (Kd.Q_below (by (with_reducible repeat (first | apply Kd.Q_alloc | apply Kd.Q_drewN | apply Kd.Q_drew)); exact HO399.out) hb)) (aI (rB HO408 hb) (aI (kB BK381 hb) (aI (kB BK391 hb) (aI (kB BK401 hb) (aI (kB BK410 hb) (sB HB hb)))))))); clear HO380 HO389 HO399 HO408 BK381 BK391 BK401 BK410 HB; obtain ⟨HO380, HO389, HO399, HO408, BK381, BK391, BK401, BK410, HB⟩ := n_; (try clear hb)))
   go_meet
   case rel => exact ⟨_, (true), (by first | rfl | (simp; done) | (simp [*]; done) | (simp; exact (by intro l_; cases l_ <;> rfl : ∀ l_ : List UInt8, l_.isEmpty = !(l_ != [])) _)), H', ⟨by first | omega | exact Nat.le_refl _⟩, ⟨Kd.Q_of_R (rP (Kd.R_mono HO380.out (fun _ hk => ⟨hk.1.1.2, ⟨hk.1.2, hk.2⟩⟩)))⟩, ⟨by (with_reducible repeat (first | apply Kd.Q_alloc | apply Kd.Q_drewN | apply Kd.Q_drew)); exact Kd.Q_mono HO389.out (fun _ hk => ⟨hk.1.1.2, ⟨hk.1.2, hk.2⟩⟩)⟩, ⟨by (with_reducible repeat (first | apply Kd.Q_alloc | apply Kd.Q_drewN | apply Kd.Q_drew)); exact Kd.Q_mono HO399.out (fun _ hk => ⟨hk.1.1.2, ⟨hk.1.2, hk.2⟩⟩)⟩, ⟨Kd.Q_of_R (rP (Kd.R_mono HO408.out (fun _ hk => ⟨hk.1.1.2, ⟨hk.1.2, hk.2⟩⟩)))⟩, ⟨kP BK381⟩, ⟨kP BK391⟩, ⟨kP BK401⟩, ⟨kP BK410⟩, ⟨bB⟩⟩
  replace c42 := Bool.eq_false_iff.mpr c42
  subst c42
  rw [if_neg (show ¬ (false = true) by decide)] at H
  have H' := aM H
  clear H
  have hnb65 := NB381_391.out
  have hnc65 := NB391_381.out
  have hnb66 := NB381_401.out
  have hnc66 := NB401_381.out
  have hnb67 := NB381_410.out
  have hnc67 := NB410_381.out
  have hcz68_0 := cZ0 BK381
  have hcz68_1 := cZ1 BK381
  have hcz68_2 : w29.cell? ⟨gb381, 2, none⟩ = some (.int .i64 t376) := (blk_cell BK381.out 2).trans rfl
  have hcz68_3 : w29.cell? ⟨gb381, 3, none⟩ = some (.int .i64 t377) := (blk_cell BK381.out 3).trans rfl
  have hcz68_4 : w29.cell? ⟨gb381, 4, none⟩ = some (.slice Ao14 t378.length co14) := (blk_cell BK381.out 4).trans rfl
  have hfz68_0 := fZ BK381 0
  have hfz68_1 := fZ BK381 1
  have hfz68_2 := fZ BK381 2
  have hfz68_3 := fZ BK381 3
  have hfz68_4 := fZ BK381 4
  go_wp2_with (first | ((with_reducible refine gate_callee (f := 20) rfl ?_); refine gL (some 35) Try.func20 #[.agg #[.int .i64 t374, .int .i64 t375, .int .i64 t376, .int .i64 t377, .slice Ao14 t378.length co14]] ?_; (with_reducible refine (spec_NodeOk.calls k t374 t375 t376 t377 _ _ t378 t411 _ ?side1 ?side2 A35.out).mono ?_); (case side1 => refine (Kd.R_reads' (e := 3) (base := w.heap.size) (ok := fun k_ => (((True ∧ some k_ ≠ (.slice Ao20 t387.length co20 : Value).ownBlock) ∧ some k_ ≠ (.slice Ao27 t397.length co27 : Value).ownBlock) ∧ some k_ ≠ (.slice Ao34 t406.length co34 : Value).ownBlock)) (n := t378.length) (c := co14) ?_).2.2; exact (rP (Kd.R_mono (Kd.R_far (p := ⟨gb410, 4, none⟩) (Kd.R_far (p := ⟨gb410, 3, none⟩) (Kd.R_far (p := ⟨gb410, 2, none⟩) (Kd.R_far (p := ⟨gb410, 1, none⟩) (Kd.R_far (p := ⟨gb410, 0, none⟩) (Kd.R_types HO380.out BK410.out (by decide)) (fun _ hk => hk.2) (.int .i64 t402)) (fun _ hk => hk.2) (.int .i64 t403)) (fun _ hk => hk.2) (.int .i64 t404)) (fun _ hk => hk.2) (.int .i64 t405)) (fun _ hk => hk.2) (.slice Ao34 t406.length co34)) (fun _ h_ => h_.1)))); (case side2 => exact (Kd.R_reads' HO380.out).2.1); rintro e w69 ⟨rfl, hb⟩; refine ⟨_, rfl, ?_⟩; have n_ := aI (aM (Kd.R_below (rP (Kd.R_mono (Kd.R_far (p := ⟨gb410, 4, none⟩) (Kd.R_far (p := ⟨gb410, 3, none⟩) (Kd.R_far (p := ⟨gb410, 2, none⟩) (Kd.R_far (p := ⟨gb410, 1, none⟩) (Kd.R_far (p := ⟨gb410, 0, none⟩) (Kd.R_types HO380.out BK410.out (by decide)) (fun _ hk => hk.2) (.int .i64 t402)) (fun _ hk => hk.2) (.int .i64 t403)) (fun _ hk => hk.2) (.int .i64 t404)) (fun _ hk => hk.2) (.int .i64 t405)) (fun _ hk => hk.2) (.slice Ao34 t406.length co34)) (fun _ h_ => h_.1))) hb)) (aI (aM (Kd.Q_below (by (with_reducible repeat (first | apply Kd.Q_alloc | apply Kd.Q_drewN | apply Kd.Q_drew)); exact (Kd.Q_mono (Kd.Q_far (p := ⟨gb410, 4, none⟩) (Kd.Q_far (p := ⟨gb410, 3, none⟩) (Kd.Q_far (p := ⟨gb410, 2, none⟩) (Kd.Q_far (p := ⟨gb410, 1, none⟩) (Kd.Q_far (p := ⟨gb410, 0, none⟩) (Kd.Q_types HO389.out BK410.out (by decide)) (fun _ hk => hk.2) (.int .i64 t402)) (fun _ hk => hk.2) (.int .i64 t403)) (fun _ hk => hk.2) (.int .i64 t404)) (fun _ hk => hk.2) (.int .i64 t405)) (fun _ hk => hk.2) (.slice Ao34 t406.length co34)) (fun _ h_ => h_.1))) hb)) (aI (aM (Kd.Q_below (by (with_reducible repeat (first | apply Kd.Q_alloc | apply Kd.Q_drewN | apply Kd.Q_drew)); exact (Kd.Q_mono (Kd.Q_far (p := ⟨gb410, 4, none⟩) (Kd.Q_far (p := ⟨gb410, 3, none⟩) (Kd.Q_far (p := ⟨gb410, 2, none⟩) (Kd.Q_far (p := ⟨gb410, 1, none⟩) (Kd.Q_far (p := ⟨gb410, 0, none⟩) (Kd.Q_types HO399.out BK410.out (by decide)) (fun _ hk => hk.2) (.int .i64 t402)) (fun _ hk => hk.2) (.int .i64 t403)) (fun _ hk => hk.2) (.int .i64 t404)) (fun _ hk => hk.2) (.int .i64 t405)) (fun _ hk => hk.2) (.slice Ao34 t406.length co34)) (fun _ h_ => h_.1))) hb)) (aI (aM (Kd.R_below (rP (Kd.R_mono (Kd.R_far (p := ⟨gb410, 4, none⟩) (Kd.R_far (p := ⟨gb410, 3, none⟩) (Kd.R_far (p := ⟨gb410, 2, none⟩) (Kd.R_far (p := ⟨gb410, 1, none⟩) (Kd.R_far (p := ⟨gb410, 0, none⟩) (Kd.R_types HO408.out BK410.out (by decide)) (fun _ hk => hk.2) (.int .i64 t402)) (fun _ hk => hk.2) (.int .i64 t403)) (fun _ hk => hk.2) (.int .i64 t404)) (fun _ hk => hk.2) (.int .i64 t405)) (fun _ hk => hk.2) (.slice Ao34 t406.length co34)) (fun _ h_ => h_.1))) hb)) (aI (kB BK381 hb) (aI (kB BK391 hb) (aI (kB BK401 hb) (aI (aM (blk_below (g := gb410) (o := .cells #[.int .i64 t402, .int .i64 t403, .int .i64 t404, .int .i64 t405, .slice Ao34 t406.length co34] 33 (0, 0)) (by (with_reducible repeat (first | apply bN | apply bD | apply bA)); refine blk_put (cs := #[.int .i64 t402, .int .i64 t403, .int .i64 t404, .int .i64 t405, .slice none 0 0]) ?_ 4 _ rfl; (with_reducible repeat (first | apply bN | apply bD | apply bA)); refine blk_put (cs := #[.int .i64 t402, .int .i64 t403, .int .i64 t404, .int .i64 0, .slice none 0 0]) ?_ 3 _ rfl; (with_reducible repeat (first | apply bN | apply bD | apply bA)); refine blk_put (cs := #[.int .i64 t402, .int .i64 t403, .int .i64 0, .int .i64 0, .slice none 0 0]) ?_ 2 _ rfl; (with_reducible repeat (first | apply bN | apply bD | apply bA)); refine blk_put (cs := #[.int .i64 t402, .int .i64 0, .int .i64 0, .int .i64 0, .slice none 0 0]) ?_ 1 _ rfl; (with_reducible repeat (first | apply bN | apply bD | apply bA)); refine blk_put (cs := #[.int .i64 0, .int .i64 0, .int .i64 0, .int .i64 0, .slice none 0 0]) ?_ 0 _ rfl; (with_reducible repeat (first | apply bN | apply bD | apply bA)); exact BK410.out) hb)) (sB HB hb)))))))); clear HO380 HO389 HO399 HO408 BK381 BK391 BK401 BK410 HB; obtain ⟨HO380, HO389, HO399, HO408, BK381, BK391, BK401, BK410, HB⟩ := n_; (try clear hb)))
  go_meet
  case rel => exact ⟨_, ((t400 != t409)), (by first | rfl | (simp; done) | (simp [*]; done) | (simp; exact (by intro l_; cases l_ <;> rfl : ∀ l_ : List UInt8, l_.isEmpty = !(l_ != [])) _)), H', ⟨by first | omega | exact Nat.le_refl _⟩, ⟨Kd.Q_of_R (rP (Kd.R_mono HO380.out (fun _ hk => ⟨hk.1.1.2, ⟨hk.1.2, hk.2⟩⟩)))⟩, ⟨by (with_reducible repeat (first | apply Kd.Q_alloc | apply Kd.Q_drewN | apply Kd.Q_drew)); exact Kd.Q_mono HO389.out (fun _ hk => ⟨hk.1.1.2, ⟨hk.1.2, hk.2⟩⟩)⟩, ⟨by (with_reducible repeat (first | apply Kd.Q_alloc | apply Kd.Q_drewN | apply Kd.Q_drew)); exact Kd.Q_mono HO399.out (fun _ hk => ⟨hk.1.1.2, ⟨hk.1.2, hk.2⟩⟩)⟩, ⟨Kd.Q_of_R (rP (Kd.R_mono HO408.out (fun _ hk => ⟨hk.1.1.2, ⟨hk.1.2, hk.2⟩⟩)))⟩, ⟨kP BK381⟩, ⟨kP BK391⟩, ⟨kP BK401⟩, ⟨kP BK410⟩, ⟨bB⟩⟩
 case rest =>
  clear HC10
  try clear c1
  try clear c2
  try clear p2
  try clear c3
  try clear c4
  try clear c5
  try clear c6
  try clear c11
  try clear c12
  try clear c16
  try clear c17
  try clear c18
  try clear c19
  try clear c20
  try clear c24
  try clear c25
  try clear c30
  try clear c31
  try clear c32
  try clear c36
  try clear c36b0
  try clear c36b1
  try clear c36b2
  try clear c37
  try clear c38
  try clear c39
  try clear c42
  try clear c44
  try clear c45
  try clear c46
  try clear c47
  try clear c50
  try clear c51
  try clear c55
  try clear c56
  try clear c57
  try clear c60
  try clear c61
  try clear c65
  try clear c66
  try clear c67
  try clear hcz13_0
  try clear hcz13_1
  try clear hcz13_2
  try clear hcz13_3
  try clear hcz13_4
  try clear hcz19_0
  try clear hcz19_1
  try clear hcz19_2
  try clear hcz19_3
  try clear hcz19_4
  try clear hcz26_0
  try clear hcz26_1
  try clear hcz26_2
  try clear hcz26_3
  try clear hcz26_4
  try clear hcz33_0
  try clear hcz33_1
  try clear hcz33_2
  try clear hcz33_3
  try clear hcz33_4
  try clear hcz40_0
  try clear hcz40_1
  try clear hcz40_2
  try clear hcz40_3
  try clear hcz40_4
  try clear hcz48_0
  try clear hcz48_1
  try clear hcz48_2
  try clear hcz48_3
  try clear hcz48_4
  try clear hcz52_0
  try clear hcz52_1
  try clear hcz52_2
  try clear hcz52_3
  try clear hcz52_4
  try clear hcz53_0
  try clear hcz53_1
  try clear hcz53_2
  try clear hcz53_3
  try clear hcz53_4
  try clear hcz58_0
  try clear hcz58_1
  try clear hcz58_2
  try clear hcz58_3
  try clear hcz58_4
  try clear hcz62_0
  try clear hcz62_1
  try clear hcz62_2
  try clear hcz62_3
  try clear hcz62_4
  try clear hcz63_0
  try clear hcz63_1
  try clear hcz63_2
  try clear hcz63_3
  try clear hcz63_4
  try clear hcz68_0
  try clear hcz68_1
  try clear hcz68_2
  try clear hcz68_3
  try clear hcz68_4
  try clear hfz13_0
  try clear hfz13_1
  try clear hfz13_2
  try clear hfz13_3
  try clear hfz13_4
  try clear hfz19_0
  try clear hfz19_1
  try clear hfz19_2
  try clear hfz19_3
  try clear hfz19_4
  try clear hfz26_0
  try clear hfz26_1
  try clear hfz26_2
  try clear hfz26_3
  try clear hfz26_4
  try clear hfz33_0
  try clear hfz33_1
  try clear hfz33_2
  try clear hfz33_3
  try clear hfz33_4
  try clear hfz40_0
  try clear hfz40_1
  try clear hfz40_2
  try clear hfz40_3
  try clear hfz40_4
  try clear hfz48_0
  try clear hfz48_1
  try clear hfz48_2
  try clear hfz48_3
  try clear hfz48_4
  try clear hfz52_0
  try clear hfz52_1
  try clear hfz52_2
  try clear hfz52_3
  try clear hfz52_4
  try clear hfz53_0
  try clear hfz53_1
  try clear hfz53_2
  try clear hfz53_3
  try clear hfz53_4
  try clear hfz58_0
  try clear hfz58_1
  try clear hfz58_2
  try clear hfz58_3
  try clear hfz58_4
  try clear hfz62_0
  try clear hfz62_1
  try clear hfz62_2
  try clear hfz62_3
  try clear hfz62_4
  try clear hfz63_0
  try clear hfz63_1
  try clear hfz63_2
  try clear hfz63_3
  try clear hfz63_4
  try clear hfz68_0
  try clear hfz68_1
  try clear hfz68_2
  try clear hfz68_3
  try clear hfz68_4
  obtain ⟨kq, x50_9, rfl, HA, HJ9, HO_382004, HO_392004, HO_402004, HO_411004, BK381, BK391, BK401, BK410, HB⟩ := hcut
  cases kq with
  | zero => exact absurd HA.out (by simp [laws_FnNodes.j0])
  | succ kj9 =>
   have H := HA.out
   clear HA
   simp only [laws_FnNodes.j0] at H
   by_cases c70 : x50_9 = true
   ·subst c70
    rw [if_pos rfl] at H
    obtain rfl := Option.some.inj H
    go_wp2
    go_ret
    exact ⟨eW, bB⟩
   ·replace c70 := Bool.eq_false_iff.mpr c70
    subst c70
    rw [if_neg (show ¬ (false = true) by decide)] at H
    by_cases c71 : t400 = true
    ·subst c71
     rw [if_pos rfl] at H
     replace H := Option.bind_eq_some_iff.mp H
     obtain ⟨t413, A720, H⟩ := H
     try dsimp only at H
     have A72 := aM A720
     clear A720
     by_cases c73 : t413.toList = t392.toList
     ·rw [if_pos c73] at H
      have c73b0 : (t413.toList == t392.toList) = true := beq_iff_eq.mpr c73
      have c73b1 : (t413.toList != t392.toList) = false := bne_eq_false_iff_eq.mpr c73
      clear c73
      replace H := Option.bind_eq_some_iff.mp H
      obtain ⟨t414, A740, H⟩ := H
      try dsimp only at H
      have A74 := aM A740
      clear A740
      obtain rfl := Option.some.inj H
      have hnb75 := NB401_381.out
      have hnc75 := NB381_401.out
      have hnb76 := NB401_391.out
      have hnc76 := NB391_401.out
      have hnb77 := NB401_410.out
      have hnc77 := NB410_401.out
      have hcz78_0 := cZ0 BK401
      have hcz78_1 := cZ1 BK401
      have hcz78_2 : wc.cell? ⟨gb401, 2, none⟩ = some (.int .i64 t395) := (blk_cell BK401.out 2).trans rfl
      have hcz78_3 : wc.cell? ⟨gb401, 3, none⟩ = some (.int .i64 t396) := (blk_cell BK401.out 3).trans rfl
      have hcz78_4 : wc.cell? ⟨gb401, 4, none⟩ = some (.slice Ao27 t397.length co27) := (blk_cell BK401.out 4).trans rfl
      have hfz78_0 := fZ BK401 0
      have hfz78_1 := fZ BK401 1
      have hfz78_2 := fZ BK401 2
      have hfz78_3 := fZ BK401 3
      have hfz78_4 := fZ BK401 4
      go_wp2_with (first | (go_at_call 18; (with_reducible refine (impl_NodeText.calls kj9 t393 t394 t395 t396 _ _ t397 t413 _ ?side1 ?side2 A72.out).mono ?_); (case side1 => repeat (first | exact (Kd.Q_reads' HO_402004.out).2.2 | (with_reducible refine Kd.C_alloc ?_ _) | (with_reducible refine Kd.C_drewN ?_ _) | (with_reducible refine Kd.C_drew ?_))); (case side2 => exact (Kd.Q_reads' HO_402004.out).2.1); rintro e w79 ⟨rfl, hb⟩; have n_ := aI (aM (Kd.Q_below (by (with_reducible repeat (first | apply Kd.Q_alloc | apply Kd.Q_drewN | apply Kd.Q_drew)); exact HO_382004.out) hb)) (aI (aM (Kd.Q_below (by (with_reducible repeat (first | apply Kd.Q_alloc | apply Kd.Q_drewN | apply Kd.Q_drew)); exact HO_392004.out) hb)) (aI (aM (Kd.Q_below (by (with_reducible repeat (first | apply Kd.Q_alloc | apply Kd.Q_drewN | apply Kd.Q_drew)); exact HO_402004.out) hb)) (aI (aM (Kd.Q_below (by (with_reducible repeat (first | apply Kd.Q_alloc | apply Kd.Q_drewN | apply Kd.Q_drew)); exact HO_411004.out) hb)) (aI (kB BK381 hb) (aI (kB BK391 hb) (aI (kB BK401 hb) (aI (kB BK410 hb) (sB HB hb)))))))); clear HO_382004 HO_392004 HO_402004 HO_411004 BK381 BK391 BK401 BK410 HB; obtain ⟨HO_382004, HO_392004, HO_402004, HO_411004, BK381, BK391, BK401, BK410, HB⟩ := n_; (try clear hb); have hcz80_0 := cZ0 BK401; have hcz80_1 := cZ1 BK401; have hcz80_2 : w79.cell? ⟨gb401, 2, none⟩ = some (.int .i64 t395) := (blk_cell BK401.out 2).trans rfl; have hcz80_3 : w79.cell? ⟨gb401, 3, none⟩ = some (.int .i64 t396) := (blk_cell BK401.out 3).trans rfl; have hcz80_4 : w79.cell? ⟨gb401, 4, none⟩ = some (.slice Ao27 t397.length co27) := (blk_cell BK401.out 4).trans rfl; have hfz80_0 := fZ BK401 0; have hfz80_1 := fZ BK401 1; have hfz80_2 := fZ BK401 2; have hfz80_3 := fZ BK401 3; have hfz80_4 := fZ BK401 4) | (go_at_call 22; (with_reducible refine (impl_NodeOk.calls kj9 t393 t394 t395 t396 _ _ t397 t414 _ ?side1 ?side2 A74.out).mono ?_); (case side1 => repeat (first | exact (Kd.Q_reads' HO_402004.out).2.2 | (with_reducible refine Kd.C_alloc ?_ _) | (with_reducible refine Kd.C_drewN ?_ _) | (with_reducible refine Kd.C_drew ?_))); (case side2 => exact (Kd.Q_reads' HO_402004.out).2.1); rintro e w81 ⟨rfl, hb⟩; have n_ := aI (aM (Kd.Q_below (by (with_reducible repeat (first | apply Kd.Q_alloc | apply Kd.Q_drewN | apply Kd.Q_drew)); exact HO_382004.out) hb)) (aI (aM (Kd.Q_below (by (with_reducible repeat (first | apply Kd.Q_alloc | apply Kd.Q_drewN | apply Kd.Q_drew)); exact HO_392004.out) hb)) (aI (aM (Kd.Q_below (by (with_reducible repeat (first | apply Kd.Q_alloc | apply Kd.Q_drewN | apply Kd.Q_drew)); exact HO_402004.out) hb)) (aI (aM (Kd.Q_below (by (with_reducible repeat (first | apply Kd.Q_alloc | apply Kd.Q_drewN | apply Kd.Q_drew)); exact HO_411004.out) hb)) (aI (kB BK381 hb) (aI (kB BK391 hb) (aI (kB BK401 hb) (aI (kB BK410 hb) (sB HB hb)))))))); clear HO_382004 HO_392004 HO_402004 HO_411004 BK381 BK391 BK401 BK410 HB; obtain ⟨HO_382004, HO_392004, HO_402004, HO_411004, BK381, BK391, BK401, BK410, HB⟩ := n_; (try clear hb)))
      go_ret
      exact ⟨eW, bB⟩
     ·rw [if_neg c73] at H
      have c73b0 : (t413.toList == t392.toList) = false := beq_eq_false_iff_ne.mpr c73
      have c73b1 : (t413.toList != t392.toList) = true := bne_iff_ne.mpr c73
      obtain rfl := Option.some.inj H
      have hnb82 := NB401_381.out
      have hnc82 := NB381_401.out
      have hnb83 := NB401_391.out
      have hnc83 := NB391_401.out
      have hnb84 := NB401_410.out
      have hnc84 := NB410_401.out
      have hcz85_0 := cZ0 BK401
      have hcz85_1 := cZ1 BK401
      have hcz85_2 : wc.cell? ⟨gb401, 2, none⟩ = some (.int .i64 t395) := (blk_cell BK401.out 2).trans rfl
      have hcz85_3 : wc.cell? ⟨gb401, 3, none⟩ = some (.int .i64 t396) := (blk_cell BK401.out 3).trans rfl
      have hcz85_4 : wc.cell? ⟨gb401, 4, none⟩ = some (.slice Ao27 t397.length co27) := (blk_cell BK401.out 4).trans rfl
      have hfz85_0 := fZ BK401 0
      have hfz85_1 := fZ BK401 1
      have hfz85_2 := fZ BK401 2
      have hfz85_3 := fZ BK401 3
      have hfz85_4 := fZ BK401 4
      go_wp2_with (first | (go_at_call 18; (with_reducible refine (impl_NodeText.calls kj9 t393 t394 t395 t396 _ _ t397 t413 _ ?side1 ?side2 A72.out).mono ?_); (case side1 => repeat (first | exact (Kd.Q_reads' HO_402004.out).2.2 | (with_reducible refine Kd.C_alloc ?_ _) | (with_reducible refine Kd.C_drewN ?_ _) | (with_reducible refine Kd.C_drew ?_))); (case side2 => exact (Kd.Q_reads' HO_402004.out).2.1); rintro e w86 ⟨rfl, hb⟩; have n_ := aI (aM (Kd.Q_below (by (with_reducible repeat (first | apply Kd.Q_alloc | apply Kd.Q_drewN | apply Kd.Q_drew)); exact HO_382004.out) hb)) (aI (aM (Kd.Q_below (by (with_reducible repeat (first | apply Kd.Q_alloc | apply Kd.Q_drewN | apply Kd.Q_drew)); exact HO_392004.out) hb)) (aI (aM (Kd.Q_below (by (with_reducible repeat (first | apply Kd.Q_alloc | apply Kd.Q_drewN | apply Kd.Q_drew)); exact HO_402004.out) hb)) (aI (aM (Kd.Q_below (by (with_reducible repeat (first | apply Kd.Q_alloc | apply Kd.Q_drewN | apply Kd.Q_drew)); exact HO_411004.out) hb)) (aI (kB BK381 hb) (aI (kB BK391 hb) (aI (kB BK401 hb) (aI (kB BK410 hb) (sB HB hb)))))))); clear HO_382004 HO_392004 HO_402004 HO_411004 BK381 BK391 BK401 BK410 HB; obtain ⟨HO_382004, HO_392004, HO_402004, HO_411004, BK381, BK391, BK401, BK410, HB⟩ := n_; (try clear hb)))
      go_ret
      exact ⟨eW, bB⟩
    ·replace c71 := Bool.eq_false_iff.mpr c71
     subst c71
     rw [if_neg (show ¬ (false = true) by decide)] at H
     obtain rfl := Option.some.inj H
     go_wp2
     go_ret
     exact ⟨eW, bB⟩

/-- THE ONE PURE STATEMENT of laws_FnNodes: yours. -/
def laws_FnNodes.Pure : Prop := ∀ (l0 : List Int), l0.length ≤ maxLen → l0.length * 1 ≤ 140737488351232 → (∀ x ∈ l0, (Lit.int .u8 x).wf = true) → ∃ k, laws_FnNodes.f k l0 = some true
theorem laws_FnNodes.walk (P : laws_FnNodes.Pure) (a0 : Option Addr) (len0 cap0 : Nat) (z0 : List Int) (w : World) (w0 : (a0 = none ∧ len0 = 0 ∧ cap0 = 0 ∧ z0 = []) ∨ ∃ x, a0 = some x ∧ len0 ≤ cap0 ∧ cap0 ≤ maxLen ∧ z0.length = cap0 ∧ (∀ i, i < z0.length → w.cell? (x.add i) = some (.int .u8 (z0.getD i 0))) ∧ ∀ n ∈ z0, (Lit.int .u8 n).wf = true) (y0 : len0 * 1 ≤ 140737488351232) :
  Calls Try.prog 5 #[.slice a0 len0 cap0] w fun e w' => e = .returned (.bool true) ∧ Below w.heap.size w w' := by
 obtain ⟨l0, rfl, hr0, hm0, hw0, hc0⟩ := ReadsInt.ofRowC w0
 obtain ⟨k, h⟩ := P l0 hm0 y0 hw0
 refine (laws_FnNodes.calls k _ _ l0 true w (Kd.C_of_reads (d := (0 : Int)) (h1 := fun _ => rfl) hr0) hc0 h).mono ?_
 rintro e w' ⟨rfl, hd⟩
 exact ⟨rfl, hd⟩

end Go.Proofs.Ytadfimhielcmmaa.PFnNodes
