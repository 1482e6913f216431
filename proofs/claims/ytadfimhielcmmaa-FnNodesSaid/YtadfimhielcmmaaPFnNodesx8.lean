-- Written by xprint.py, a program of this session over the kit's print. Not trusted: Lean checks it.
import Derived.Test.YtadfimhielcmmaaPFnNodesx0
import Derived.Test.YtadfimhielcmmaaPFnNodesx1
import Derived.Test.YtadfimhielcmmaaPFnNodesx2
import Derived.Test.YtadfimhielcmmaaPFnNodesx6
import Derived.Test.YtadfimhielcmmaaPFnNodesx7
namespace Go.Proofs.Ytadfimhielcmmaa.PFnNodes
open Go.RowKit Go.Proofs.YtadfimhielcmmaaW.PrintWords Go.Proofs.YtadfimhielcmmaaW.PrintLast Go.Proofs.YtadfimhielcmmaaW.PrintMore
attribute [local go_sem] max2_int min2_int max_two min_two max_three min_three max_four min_four   -- for this text's walks alone
set_option linter.unusedVariables false
set_option linter.unusedSimpArgs false

/-! ### spec_l1New: function 37 -/
def spec_l1New.l0 : Nat → List Int → Int → Int → Option (List Int × Int × Int)
 | 0, _, _, _ => none
 | k + 1, x0, x3, x4 => if x4 < (x0.length : Int) then (if x4 < 4000 then (if 0 ≤ x4 then (spec_l1New.l0 k x0 (Go.bits .and .i64 (wrap64 ((wrap64 ((wrap64 (x3 * 131)) + (wrap64 (rd x0 x4)))) + 7)) 1073741823) (wrap64 (x4 + 1))) else (none)) else (some (x0, 0, x3))) else (some (x0, 0, x3))
def spec_l1New.f (k : Nat) (l0 : List Int) : Option (List Int × Int × Int) := spec_l1New.l0 k l0 (wrap64 (26583 + (l0.length : Int))) 0
theorem spec_l1New.mono_l : ∀ k, (∀ y0 y1 y2, LeO (spec_l1New.l0 k y0 y1 y2) (spec_l1New.l0 (k + 1) y0 y1 y2))
 | 0 => fun _ _ _ r h => by simp [spec_l1New.l0] at h
 | k + 1 => by
  have ih0 := spec_l1New.mono_l k
  ·intro y0 y1 y2
   unfold spec_l1New.l0
   exact mM
theorem spec_l1New.mono : ∀ a0 k, LeO (spec_l1New.f k a0) (spec_l1New.f (k + 1) a0) := by
 intro a0 k
 have ih0 := spec_l1New.mono_l k
 unfold spec_l1New.f
 exact mM
set_option maxHeartbeats 8000000 in
set_option maxRecDepth 100000 in
theorem spec_l1New.calls (k : Nat) (A0 : Option Addr) (c0 : Nat) (l0 : List Int) (r1 : List Int) (r2 : Int) (r3 : Int) (w0 w : World) (hB : Below w0.heap.size w0 w) (hr0 : Kd.C (Kd.int .u8) w0 A0 l0.length l0) (hc0 : l0.length ≤ c0) (h : spec_l1New.f k l0 = some (r1, r2, r3)) :
  Calls Try.prog 37 #[.slice A0 l0.length c0] w fun e w' => ∃ g_ : Nat, e = .returned (.pointer (some ⟨g_, 0, none⟩)) ∧ IsS65 w0 w' g_ r1 r2 r3 ∧ Below w0.heap.size w0 w' ∧ Below w.heap.size w w' := by
 have hu65 := Try.underlying65
 have HR0 := aM hr0
 have HC0 := aM hc0
 clear hr0 hc0
 have HBW := aM (Below.refl w.heap.size w)
 have HW0 := aM hB.size
 have HB := aM hB
 clear hB
 unfold spec_l1New.f at h
 have H := h
 clear h
 have H' := aM H
 clear H
 go_enter Try.func37, Try.ntmps37
 go_wp2
 go_loopg [3, 4] k (fun kq v3 v4 w' => ∃ (x3_1 : Int) (x4_1 : Int), v3 = .int .i64 x3_1 ∧ v4 = .int .i64 x4_1 ∧ Aside0 (spec_l1New.l0 kq l0 x3_1 x4_1 = some (r1, r2, r3)) ∧ Aside0 (kq ≤ k) ∧ Aside0 (Below w.heap.size w w') ∧ Aside0 (Below w0.heap.size w0 w'))
 case atStart => exact ⟨(wrap64 (26583 + (l0.length : Int))), (0), (by first | rfl | (simp; done) | (simp [*]; done) | (simp; exact (by intro l_; cases l_ <;> rfl : ∀ l_ : List UInt8, l_.isEmpty = !(l_ != [])) _)), (by first | rfl | (simp; done) | (simp [*]; done) | (simp; exact (by intro l_; cases l_ <;> rfl : ∀ l_ : List UInt8, l_.isEmpty = !(l_ != [])) _)), H', ⟨Nat.le_refl _⟩, ⟨by repeat (first | (with_reducible first | exact HBW.out | apply below_alloc | apply pw_below_drewN | apply below_drew1) | exact HBW.out)⟩, ⟨bB⟩⟩
 case round =>
  clear H'
  obtain ⟨x3_1, x4_1, rfl, rfl, HA, HK1, HBW, HB⟩ := hrel
  cases gk with
  | zero => exact absurd HA.out (by simp [spec_l1New.l0])
  | succ k1 =>
   have H := HA.out
   clear HA
   simp only [spec_l1New.l0] at H
   by_cases c2 : x4_1 < (l0.length : Int)
   ·rw [if_pos c2] at H
    have c2b0 : decide (x4_1 < (l0.length : Int)) = true := decide_eq_true c2
    clear c2
    by_cases c3 : x4_1 < 4000
    ·rw [if_pos c3] at H
     have c3b0 : decide (x4_1 < 4000) = true := decide_eq_true c3
     clear c3
     by_cases c4 : 0 ≤ x4_1
     ·rw [if_pos c4] at H
      have c4b0 : decide (0 ≤ x4_1) = true := decide_eq_true c4
      clear c4
      have H' := aM H
      clear H
      have p311 : 0 ≤ (x4_1 : Int) := dT
      have q311 : x4_1 < (l0.length : Int) := dT
      obtain ⟨ad311, e311, hx311_0⟩ := Kd.at_int HR0.out x4_1 p311 q311
      cases e311
      replace hx311_0 := pw_cell_below HB.out hx311_0
      replace p311 := eq_true p311
      replace q311 := eq_true q311
      go_wp2
      go_roundg k1
      case measure => have := HK1.out; omega
      case rel => exact ⟨(Go.bits .and .i64 (wrap64 ((wrap64 ((wrap64 (x3_1 * 131)) + (wrap64 (rd l0 x4_1)))) + 7)) 1073741823), (wrap64 (x4_1 + 1)), (by first | rfl | (simp; done) | (simp [*]; done) | (simp; exact (by intro l_; cases l_ <;> rfl : ∀ l_ : List UInt8, l_.isEmpty = !(l_ != [])) _)), (by first | rfl | (simp; done) | (simp [*]; done) | (simp; exact (by intro l_; cases l_ <;> rfl : ∀ l_ : List UInt8, l_.isEmpty = !(l_ != [])) _)), H', ⟨by have := HK1.out; omega⟩, ⟨by repeat (first | (with_reducible first | exact HBW.out | apply below_alloc | apply pw_below_drewN | apply below_drew1) | exact HBW.out)⟩, ⟨bB⟩⟩
     ·rw [if_neg c4] at H
      exact absurd H (by simp)
    ·rw [if_neg c3] at H
     have c3b0 : decide (x4_1 < 4000) = false := decide_eq_false c3
     clear c3
     simp only [Option.some.injEq, Prod.mk.injEq] at H
     obtain ⟨rfl, rfl, rfl⟩ := H
     go_wp2_with (first | ((with_reducible refine gate_dst (N := 31) rfl ?_); refine bE 31 #[.slice A0 l0.length c0, .int .i64 0, .int .i64 x3_1] 65 ?_; intro gb312 hg w5 hbox hb; have n_ := aI (aM (below_step HBW.out hb)) (aI (sB HB hb) (aI (aM hbox) (aI (aM ((by rw [hg]; exact (below_size (by repeat (first | (with_reducible first | exact HBW.out | apply below_alloc | apply pw_below_drewN | apply below_drew1) | exact HBW.out))) : w.heap.size ≤ gb312))) (aM ((Nat.le_trans HW0.out (by rw [hg]; exact (below_size (by repeat (first | (with_reducible first | exact HBW.out | apply below_alloc | apply pw_below_drewN | apply below_drew1) | exact HBW.out))) : w.heap.size ≤ gb312) : w0.heap.size ≤ gb312)))))); clear HBW HB; obtain ⟨HBW, HB, BK312, GW312, GE312⟩ := n_; (try clear hb hbox hg)))
     go_ret
     exact ⟨_, rfl, (show IsS65 w0 _ gb312 l0 0 x3_1 from ⟨_, _, by (with_reducible repeat (first | apply bN | apply bD | apply bA)); exact BK312.out, GE312.out, HR0.out⟩), bB, by repeat (first | (with_reducible first | exact HBW.out | apply below_alloc | apply pw_below_drewN | apply below_drew1 | refine below_set ?_ GW312.out) | exact HBW.out)⟩
   ·rw [if_neg c2] at H
    have c2b0 : decide (x4_1 < (l0.length : Int)) = false := decide_eq_false c2
    clear c2
    simp only [Option.some.injEq, Prod.mk.injEq] at H
    obtain ⟨rfl, rfl, rfl⟩ := H
    go_wp2_with (first | ((with_reducible refine gate_dst (N := 31) rfl ?_); refine bE 31 #[.slice A0 l0.length c0, .int .i64 0, .int .i64 x3_1] 65 ?_; intro gb313 hg w6 hbox hb; have n_ := aI (aM (below_step HBW.out hb)) (aI (sB HB hb) (aI (aM hbox) (aI (aM ((by rw [hg]; exact (below_size (by repeat (first | (with_reducible first | exact HBW.out | apply below_alloc | apply pw_below_drewN | apply below_drew1) | exact HBW.out))) : w.heap.size ≤ gb313))) (aM ((Nat.le_trans HW0.out (by rw [hg]; exact (below_size (by repeat (first | (with_reducible first | exact HBW.out | apply below_alloc | apply pw_below_drewN | apply below_drew1) | exact HBW.out))) : w.heap.size ≤ gb313) : w0.heap.size ≤ gb313)))))); clear HBW HB; obtain ⟨HBW, HB, BK313, GW313, GE313⟩ := n_; (try clear hb hbox hg)))
    go_ret
    exact ⟨_, rfl, (show IsS65 w0 _ gb313 l0 0 x3_1 from ⟨_, _, by (with_reducible repeat (first | apply bN | apply bD | apply bA)); exact BK313.out, GE313.out, HR0.out⟩), bB, by repeat (first | (with_reducible first | exact HBW.out | apply below_alloc | apply pw_below_drewN | apply below_drew1 | refine below_set ?_ GW313.out) | exact HBW.out)⟩

/-! ### spec_DrawNodeText: function 17 -/
def spec_DrawNodeText.f (k : Nat) (l0 : List Int) : Option (Int × Int × Int × Int × List Int) := (spec_l1New.f k l0).bind fun bt315 => ((spec_l5Draw.f k bt315.1 bt315.2.1 bt315.2.2).bind fun bt319 => (some (bt319.1, bt319.2.1, bt319.2.2.1, bt319.2.2.2.1, bt319.2.2.2.2.1)))
theorem spec_DrawNodeText.mono : ∀ a0 k, LeO (spec_DrawNodeText.f k a0) (spec_DrawNodeText.f (k + 1) a0) := by
 intro a0 k
 unfold spec_DrawNodeText.f
 have m0_ := @spec_l1New.mono
 have m1_ := @spec_l5Draw.mono
 exact mM
set_option maxHeartbeats 8000000 in
set_option maxRecDepth 100000 in
theorem spec_DrawNodeText.calls (k : Nat) (A0 : Option Addr) (c0 : Nat) (l0 : List Int) (r1 : Int) (r2 : Int) (r3 : Int) (r4 : Int) (r5 : List Int) (w : World) (hr0 : Kd.C (Kd.int .u8) w A0 l0.length l0) (hc0 : l0.length ≤ c0) (h : spec_DrawNodeText.f k l0 = some (r1, r2, r3, r4, r5)) :
  Calls Try.prog 17 #[.slice A0 l0.length c0] w fun e w' => ∃ v4_ : Value, e = .returned (.agg #[.int .i64 r1, .int .i64 r2, .int .i64 r3, .int .i64 r4, v4_]) ∧ Kd.R (Kd.int .i64) 3 w' w.heap.size (fun _ => True) v4_ r5 ∧ Below w.heap.size w w' := by
 have hu33 := Try.underlying33
 have HR0 := aM hr0
 have HC0 := aM hc0
 clear hr0 hc0
 have HB := aM (Below.refl w.heap.size w)
 unfold spec_DrawNodeText.f at h
 have H := h
 clear h
 replace H := Option.bind_eq_some_iff.mp H
 obtain ⟨⟨t315, t316, t317⟩, A20, H⟩ := H
 try dsimp only at H
 have A2 := aM A20
 clear A20
 replace H := Option.bind_eq_some_iff.mp H
 obtain ⟨⟨t319, t320, t321, t322, t323, t326, t327⟩, A30, H⟩ := H
 try dsimp only at H
 have A3 := aM A30
 clear A30
 simp only [Option.some.injEq, Prod.mk.injEq] at H
 obtain ⟨rfl, rfl, rfl, rfl, rfl⟩ := H
 go_enter Try.func17, Try.ntmps17
 go_wp2_with (first | ((with_reducible refine gate_dst (N := 2) rfl ?_); refine bE 2 #[.int .i64 0, .int .i64 0, .int .i64 0, .int .i64 0, .slice none 0 0] 33 ?_; intro gb314 hg w4 hbox hb; have n_ := aI (sB HB hb) (aI (aM hbox) (aI (gE HB hg) (gE HB hg))); clear HB; obtain ⟨HB, BK314, GW314, GE314⟩ := n_; (try clear hb hbox hg)) | ((with_reducible refine gate_callee (f := 37) rfl ?_); refine gL (some 4) Try.func37 #[.slice A0 l0.length c0] ?_; (with_reducible refine (spec_l1New.calls k _ _ l0 t315 t316 t317 w _ ?side1 ?side2 ?side3 A2.out).mono ?_); (case side1 => exact bB); (case side2 => exact HR0.out); (case side3 => exact HC0.out); rintro e w5 ⟨g318, rfl, hi, hb, hb2⟩; refine ⟨_, rfl, ?_⟩; have n_ := aI (aM (blk_below (g := gb314) (o := .cells #[.int .i64 0, .int .i64 0, .int .i64 0, .int .i64 0, .slice none 0 0] 33 (0, 0)) (kP BK314) hb2)) (aI (aM (hb)) (aI (aM (hi)) (aI (aM (IsS65.ne_blk hi (blk_below (g := gb314) (o := .cells #[.int .i64 0, .int .i64 0, .int .i64 0, .int .i64 0, .slice none 0 0] 33 (0, 0)) (kP BK314) hb2) (by decide))) (aM (Ne.symm (IsS65.ne_blk hi (blk_below (g := gb314) (o := .cells #[.int .i64 0, .int .i64 0, .int .i64 0, .int .i64 0, .slice none 0 0] 33 (0, 0)) (kP BK314) hb2) (by decide))))))); clear BK314 HB; obtain ⟨BK314, HB, HI318, NB318_314, NB314_318⟩ := n_; (try clear hb hb2 hi)) | ((with_reducible refine gate_callee (f := 36) rfl ?_); refine gL (some 5) Try.func36 #[.pointer (some ⟨g318, 0, none⟩)] ?_; (with_reducible refine (spec_l5Draw.calls k g318 t315 t316 t317 t319 t320 t321 t322 t323 t326 t327 w _ ?side1 ?side2 A3.out).mono ?_); (case side1 => exact IsS65.iI HI318); (case side2 => exact bB); rintro e w6 ⟨v324, rfl, ho0, hi, hb, hk⟩; refine ⟨_, rfl, ?_⟩; have n_ := aI (aM (KeepBut.blk hk (g' := gb314) (o := .cells #[.int .i64 0, .int .i64 0, .int .i64 0, .int .i64 0, .slice none 0 0] 33 (0, 0)) (kP BK314) NB314_318.out (by simp))) (aI (lR HB ho0) (aI (aM (hb)) (aM (hi)))); clear BK314 HB HI318; obtain ⟨BK314, HO325, HB, HI318⟩ := n_; (try clear hb hk hi ho0); have hnb7 := NB314_318.out; have hnc7 := NB318_314.out; have hcz8_0 := cZ0 BK314; have hcz8_1 := cZ1 BK314; have hcz8_2 : w6.cell? ⟨gb314, 2, none⟩ = some (.int .i64 0) := (blk_cell BK314.out 2).trans rfl; have hcz8_3 : w6.cell? ⟨gb314, 3, none⟩ = some (.int .i64 0) := (blk_cell BK314.out 3).trans rfl; have hcz8_4 : w6.cell? ⟨gb314, 4, none⟩ = some (.slice none 0 0) := (blk_cell BK314.out 4).trans rfl; have hfz8_0 := fZ BK314 0; have hfz8_1 := fZ BK314 1; have hfz8_2 := fZ BK314 2; have hfz8_3 := fZ BK314 3; have hfz8_4 := fZ BK314 4; obtain ⟨Ao9, co9, eo9⟩ := Kd.R_slice HO325.out; subst eo9))
 refine bodyPost_ret (results_cell_row rfl _ _ gb314 33 #[.int .i64 t319, .int .i64 t320, .int .i64 t321, .int .i64 t322, .slice Ao9 t323.length co9] (0, 0) _ rfl (by (with_reducible repeat (first | apply bN | apply bD | apply bA)); refine blk_put (cs := #[.int .i64 t319, .int .i64 t320, .int .i64 t321, .int .i64 t322, .slice none 0 0]) ?_ 4 _ rfl; (with_reducible repeat (first | apply bN | apply bD | apply bA)); refine blk_put (cs := #[.int .i64 t319, .int .i64 t320, .int .i64 t321, .int .i64 0, .slice none 0 0]) ?_ 3 _ rfl; (with_reducible repeat (first | apply bN | apply bD | apply bA)); refine blk_put (cs := #[.int .i64 t319, .int .i64 t320, .int .i64 0, .int .i64 0, .slice none 0 0]) ?_ 2 _ rfl; (with_reducible repeat (first | apply bN | apply bD | apply bA)); refine blk_put (cs := #[.int .i64 t319, .int .i64 0, .int .i64 0, .int .i64 0, .slice none 0 0]) ?_ 1 _ rfl; (with_reducible repeat (first | apply bN | apply bD | apply bA)); refine blk_put (cs := #[.int .i64 0, .int .i64 0, .int .i64 0, .int .i64 0, .slice none 0 0]) ?_ 0 _ rfl; (with_reducible repeat (first | apply bN | apply bD | apply bA)); exact BK314.out) Try.underlying33 rfl (by kernel_rfl)) rfl ?_
 exact ⟨_, eW, by (with_reducible repeat (first | apply Kd.R_alloc | apply Kd.R_drewN | apply Kd.R_drew)); exact Kd.R_mono (Kd.R_far (p := ⟨gb314, 4, none⟩) (Kd.R_far (p := ⟨gb314, 3, none⟩) (Kd.R_far (p := ⟨gb314, 2, none⟩) (Kd.R_far (p := ⟨gb314, 1, none⟩) (Kd.R_far (p := ⟨gb314, 0, none⟩) (Kd.R_types HO325.out BK314.out (by decide)) (fun _ hk => hk.2) (.int .i64 t319)) (fun _ hk => hk.2) (.int .i64 t320)) (fun _ hk => hk.2) (.int .i64 t321)) (fun _ hk => hk.2) (.int .i64 t322)) (fun _ hk => hk.2) (.slice Ao9 t323.length co9)) (fun _ hk => trivial), bB⟩

/-! ### spec_PutNum: function 50 -/
def spec_PutNum.l0 : Nat → Int → List Int → Option (List Int)
 | 0, _, _ => none
 | k + 1, x0, x3 => if x0 > 127 then (if x3.length < 140737488355328 then (spec_PutNum.l0 k (wrap64 (Int.tdiv x0 128)) (x3 ++ [(wrap64 ((Int.tmod x0 128) + 128)) % 256])) else (none)) else (if x3.length < 140737488355328 then (some (x3 ++ [(x0) % 256])) else (none))
def spec_PutNum.f (k : Nat) (a0 : Int) : Option (List Int) := (some (([] : List Int) : List Int)).bind fun y328 => ((spec_l1In.f a0 0 2147483647).bind fun t331 => (if t331 = true then (spec_PutNum.l0 k a0 y328) else (some y328)))
theorem spec_PutNum.mono_l : ∀ k, (∀ y0 y1, LeO (spec_PutNum.l0 k y0 y1) (spec_PutNum.l0 (k + 1) y0 y1))
 | 0 => fun _ _ r h => by simp [spec_PutNum.l0] at h
 | k + 1 => by
  have ih0 := spec_PutNum.mono_l k
  ·intro y0 y1
   unfold spec_PutNum.l0
   exact mM
theorem spec_PutNum.mono : ∀ a0 k, LeO (spec_PutNum.f k a0) (spec_PutNum.f (k + 1) a0) := by
 intro a0 k
 have ih0 := spec_PutNum.mono_l k
 unfold spec_PutNum.f
 exact mM
set_option maxHeartbeats 8000000 in
set_option maxRecDepth 100000 in
theorem spec_PutNum.calls (k : Nat) (a0 : Int) (r : List Int) (w : World) (h : spec_PutNum.f k a0 = some r) :
  Calls Try.prog 50 #[.int .i64 a0] w fun e w' => ∃ v0_ : Value, e = .returned (v0_) ∧ Kd.R (Kd.int .u8) 5 w' w.heap.size (fun _ => True) v0_ r ∧ Below w.heap.size w w' := by
 have HB := aM (Below.refl w.heap.size w)
 unfold spec_PutNum.f at h
 have H := h
 clear h
 obtain ⟨y328, hy328⟩ : ∃ y_ : List Int, y_ = (([] : List Int)) := ⟨_, rfl⟩
 replace H : ((spec_l1In.f a0 0 2147483647).bind fun t331 => (if t331 = true then (spec_PutNum.l0 k a0 y328) else (some y328))) = some r := bQ hy328 H
 have Ny328 := aM hy328
 clear hy328
 replace H := Option.bind_eq_some_iff.mp H
 obtain ⟨t331, A20, H⟩ := H
 try dsimp only at H
 have A2 := aM A20
 clear A20
 by_cases c3 : t331 = true
 ·subst c3
  rw [if_pos rfl] at H
  have H' := aM H
  clear H
  go_enter Try.func50, Try.ntmps50
  go_wp2_with (first | ((with_reducible refine gate_dst (N := 4) rfl ?_); refine Kd.R_lit (Kd.int .u8) _ 5 ?hg (N := 4) ?hd (xs := ([] : List Int)) (inner := []) (ok := fun _ => True) (okp := fun _ => True) ?hr ?hp (fun _ hk => hk) trivial (Below.refl _ _) (Nat.le_refl _) (by simp) ?_; (case hd => rfl); (case hg => rfl); (case hr => first | (go_simp; done) | (go_simp; rfl)); (case hp => exact (Reps.none _ _)); intro v329 w4 ho5 hb hg_ hnew_; clear hg_ hnew_; (first | rw [← Ny328.out] at ho5 | (simp only [Int.reduceToNat] at ho5; rw [← Ny328.out] at ho5)); have n_ := aI (lR HB ho5) (sB HB hb); clear HB; obtain ⟨HO330, HB⟩ := n_; (try clear hb ho5)) | ((with_reducible refine gate_callee (f := 23) rfl ?_); refine gL (some 6) Try.func23 #[.int .i64 a0, .int .i64 0, .int .i64 2147483647] ?_; (with_reducible refine (spec_l1In.calls a0 0 2147483647 true _ A2.out).mono ?_); rintro e w' ⟨rfl, ⟨nd, rfl⟩⟩; refine ⟨_, rfl, ?_⟩))
  go_loopg [0, 3] k (fun kq v0 v3 w' => ∃ (x0_1 : Int) (x3_1 : List Int), v0 = .int .i64 x0_1 ∧ Aside0 (spec_PutNum.l0 kq x0_1 x3_1 = some r) ∧ Aside0 (kq ≤ k) ∧ Aside0 (Kd.R (Kd.int .u8) 5 w' w.heap.size (fun _ => True) v3 x3_1) ∧ Aside0 (Below w.heap.size w w'))
  case atStart => exact ⟨(a0), (y328), (by first | rfl | (simp; done) | (simp [*]; done) | (simp; exact (by intro l_; cases l_ <;> rfl : ∀ l_ : List UInt8, l_.isEmpty = !(l_ != [])) _)), H', ⟨Nat.le_refl _⟩, ⟨rP HO330.out⟩, ⟨bB⟩⟩
  case round =>
   clear H'
   try clear c2
   try clear p2
   try clear c3
   try clear c5
   obtain ⟨x0_1, x3_1, rfl, HA, HK1, HO_3, HB⟩ := hrel
   cases gk with
   | zero => exact absurd HA.out (by simp [spec_PutNum.l0])
   | succ k1 =>
    have H := HA.out
    clear HA
    simp only [spec_PutNum.l0] at H
    by_cases c6 : x0_1 > 127
    ·rw [if_pos c6] at H
     have c6b0 : decide (127 < x0_1) = true := decide_eq_true c6
     clear c6
     by_cases c7 : x3_1.length < 140737488355328
     ·rw [if_pos c7] at H
      have LMc7 := aM c7
      clear c7
      obtain ⟨y332, hy332⟩ : ∃ y_ : List Int, y_ = (x3_1 ++ [(wrap64 ((Int.tmod x0_1 128) + 128)) % 256]) := ⟨_, rfl⟩
      replace H : (spec_PutNum.l0 k1 (wrap64 (Int.tdiv x0_1 128)) y332) = some r := bQ hy332 H
      have Ny332 := aM hy332
      clear hy332
      have H' := aM H
      clear H
      go_wp2_with (first | ((with_reducible refine gate_builtin (b := .append) (xs := #[.tmp 11, .tmp 16]) rfl ?_); at_builtin; refine Kd.R_append (Kd.int .u8) (w0 := w) w.heap.size rfl (.tmp 11) (.tmp 16) 39 5 (.int .u8 0) 1 rfl Try.underlying39 info5 rfl (by decide) (by omega) u3 x3_1 ((wrap64 ((Int.tmod x0_1 128) + 128)) % 256) [.int .u8 ((wrap64 ((Int.tmod x0_1 128) + 128)) % 256)] (fun _ => True) (fun _ => False) rfl rfl ?aP (fun _ hk => hk.elim) ?aF ?aO ?aB ?aS ?aL ?_; (case aP => exact rfl); (case aB => exact bB); (case aF => exact (fun _ _ => trivial)); (case aO => exact (rP HO_3.out)); (case aS => exact (zB HB)); (case aL => have := LMc7.out; omega); intro v333 w8 ho hb hg hat; rw [← Ny332.out] at ho; have n_ := aI (aM (hb)) (aM (ho)); clear HB HO_3; obtain ⟨HB, HO334⟩ := n_; (try clear ho hb hg hat)))
      go_roundg k1
      case measure => have := HK1.out; omega
      case rel => exact ⟨(wrap64 (Int.tdiv x0_1 128)), (y332), (by first | rfl | (simp; done) | (simp [*]; done) | (simp; exact (by intro l_; cases l_ <;> rfl : ∀ l_ : List UInt8, l_.isEmpty = !(l_ != [])) _)), H', ⟨by have := HK1.out; omega⟩, ⟨rP HO334.out⟩, ⟨bB⟩⟩
     ·rw [if_neg c7] at H
      exact absurd H (by simp)
    ·rw [if_neg c6] at H
     have c6b0 : decide (127 < x0_1) = false := decide_eq_false c6
     clear c6
     by_cases c9 : x3_1.length < 140737488355328
     ·rw [if_pos c9] at H
      have LMc9 := aM c9
      clear c9
      obtain ⟨y335, hy335⟩ : ∃ y_ : List Int, y_ = (x3_1 ++ [(x0_1) % 256]) := ⟨_, rfl⟩
      replace H : (some y335) = some r := bQ hy335 H
      have Ny335 := aM hy335
      clear hy335
      obtain rfl := Option.some.inj H
      go_wp2_with (first | ((with_reducible refine gate_builtin (b := .append) (xs := #[.tmp 20, .tmp 23]) rfl ?_); at_builtin; refine Kd.R_append (Kd.int .u8) (w0 := w) w.heap.size rfl (.tmp 20) (.tmp 23) 39 5 (.int .u8 0) 1 rfl Try.underlying39 info5 rfl (by decide) (by omega) u3 x3_1 ((x0_1) % 256) [.int .u8 ((x0_1) % 256)] (fun _ => True) (fun _ => False) rfl rfl ?aP (fun _ hk => hk.elim) ?aF ?aO ?aB ?aS ?aL ?_; (case aP => exact rfl); (case aB => exact bB); (case aF => exact (fun _ _ => trivial)); (case aO => exact (rP HO_3.out)); (case aS => exact (zB HB)); (case aL => have := LMc9.out; omega); intro v336 w10 ho hb hg hat; rw [← Ny335.out] at ho; have n_ := aI (aM (hb)) (aM (ho)); clear HB HO_3; obtain ⟨HB, HO337⟩ := n_; (try clear ho hb hg hat)))
      go_ret
      exact ⟨_, eW, by (with_reducible repeat (first | apply Kd.R_alloc | apply Kd.R_drewN | apply Kd.R_drew)); exact HO337.out, bB⟩
     ·rw [if_neg c9] at H
      exact absurd H (by simp)
 replace c3 := Bool.eq_false_iff.mpr c3
 subst c3
 rw [if_neg (show ¬ (false = true) by decide)] at H
 obtain rfl := Option.some.inj H
 go_enter Try.func50, Try.ntmps50
 go_wp2_with (first | ((with_reducible refine gate_dst (N := 4) rfl ?_); refine Kd.R_lit (Kd.int .u8) _ 5 ?hg (N := 4) ?hd (xs := ([] : List Int)) (inner := []) (ok := fun _ => True) (okp := fun _ => True) ?hr ?hp (fun _ hk => hk) trivial (Below.refl _ _) (Nat.le_refl _) (by simp) ?_; (case hd => rfl); (case hg => rfl); (case hr => first | (go_simp; done) | (go_simp; rfl)); (case hp => exact (Reps.none _ _)); intro v329 w11 ho12 hb hg_ hnew_; clear hg_ hnew_; (first | rw [← Ny328.out] at ho12 | (simp only [Int.reduceToNat] at ho12; rw [← Ny328.out] at ho12)); have n_ := aI (lR HB ho12) (sB HB hb); clear HB; obtain ⟨HO330, HB⟩ := n_; (try clear hb ho12)) | ((with_reducible refine gate_callee (f := 23) rfl ?_); refine gL (some 6) Try.func23 #[.int .i64 a0, .int .i64 0, .int .i64 2147483647] ?_; (with_reducible refine (spec_l1In.calls a0 0 2147483647 false _ A2.out).mono ?_); rintro e w' ⟨rfl, ⟨nd, rfl⟩⟩; refine ⟨_, rfl, ?_⟩))
 go_ret
 exact ⟨_, eW, by (with_reducible repeat (first | apply Kd.R_alloc | apply Kd.R_drewN | apply Kd.R_drew)); exact HO330.out, bB⟩

/-! ### spec_NodeText: function 39 -/
def spec_NodeText.l0 : Nat → List Int → Int → Int → Int → Int → Int → List Int → Option (ByteArray)
 | 0, _, _, _, _, _, _, _ => none
 | k + 1, x3, x4, x339000, x339001, x339002, x339003, x339004 => if x4 < (x339004.length : Int) then (if 0 ≤ x4 then ((spec_PutNum.f k (rd x339004 x4)).bind fun t362 => (if x3.length + t362.length < 140737488355328 then (spec_NodeText.l0 k (x3 ++ t362) (wrap64 (x4 + 1)) x339000 x339001 x339002 x339003 x339004) else (none))) else (none)) else (some (strOfNums x3))
def spec_NodeText.f (k : Nat) (a0_0 : Int) (a0_1 : Int) (a0_2 : Int) (a0_3 : Int) (l0_4 : List Int) : Option (ByteArray) := (spec_NodeOk.f k a0_0 a0_1 a0_2 a0_3 l0_4).bind fun t339 => (if t339 = true then ((some (([(a0_0) % 256] : List Int) : List Int)).bind fun y340 => (if a0_0 = 0 then (some (strOfNums y340)) else ((spec_PutNum.f k a0_1).bind fun t343 => (if y340.length + t343.length < 140737488355328 then ((some (y340 ++ t343 : List Int)).bind fun y346 => ((spec_PutNum.f k a0_2).bind fun t349 => (if y346.length + t349.length < 140737488355328 then ((some (y346 ++ t349 : List Int)).bind fun y352 => ((spec_PutNum.f k a0_3).bind fun t355 => (if y352.length + t355.length < 140737488355328 then (spec_NodeText.l0 k (y352 ++ t355) 0 a0_0 a0_1 a0_2 a0_3 l0_4) else (none)))) else (none)))) else (none))))) else (some (⟨#[]⟩ : ByteArray)))
theorem spec_NodeText.mono_l : ∀ k, (∀ y0 y1 y2 y3 y4 y5 y6, LeO (spec_NodeText.l0 k y0 y1 y2 y3 y4 y5 y6) (spec_NodeText.l0 (k + 1) y0 y1 y2 y3 y4 y5 y6))
 | 0 => fun _ _ _ _ _ _ _ r h => by simp [spec_NodeText.l0] at h
 | k + 1 => by
  have ih0 := spec_NodeText.mono_l k
  ·intro y0 y1 y2 y3 y4 y5 y6
   unfold spec_NodeText.l0
   have m0_ := @spec_NodeOk.mono
   have m1_ := @spec_PutNum.mono
   exact mM
theorem spec_NodeText.mono : ∀ a0 a1 a2 a3 a4 k, LeO (spec_NodeText.f k a0 a1 a2 a3 a4) (spec_NodeText.f (k + 1) a0 a1 a2 a3 a4) := by
 intro a0 a1 a2 a3 a4 k
 have ih0 := spec_NodeText.mono_l k
 unfold spec_NodeText.f
 have m0_ := @spec_NodeOk.mono
 have m1_ := @spec_PutNum.mono
 exact mM
set_option maxHeartbeats 8000000 in
set_option maxRecDepth 100000 in
theorem spec_NodeText.calls (k : Nat) (a0_0 : Int) (a0_1 : Int) (a0_2 : Int) (a0_3 : Int) (A0_4 : Option Addr) (c0_4 : Nat) (l0_4 : List Int) (r : ByteArray) (w : World) (hr0_4 : Kd.C (Kd.int .i64) w A0_4 l0_4.length l0_4) (hc0_4 : l0_4.length ≤ c0_4) (h : spec_NodeText.f k a0_0 a0_1 a0_2 a0_3 l0_4 = some r) :
  Calls Try.prog 39 #[.agg #[.int .i64 a0_0, .int .i64 a0_1, .int .i64 a0_2, .int .i64 a0_3, .slice A0_4 l0_4.length c0_4]] w fun e w' => e = .returned (.string r) ∧ Below w.heap.size w w' := by
 have hu33 := Try.underlying33
 have HR0_4 := aM hr0_4
 have HC0_4 := aM hc0_4
 clear hr0_4 hc0_4
 have HB := aM (Below.refl w.heap.size w)
 unfold spec_NodeText.f at h
 have H := h
 clear h
 replace H := Option.bind_eq_some_iff.mp H
 obtain ⟨t339, A20, H⟩ := H
 try dsimp only at H
 have A2 := aM A20
 clear A20
 by_cases c3 : t339 = true
 ·subst c3
  rw [if_pos rfl] at H
  obtain ⟨y340, hy340⟩ : ∃ y_ : List Int, y_ = (([(a0_0) % 256] : List Int)) := ⟨_, rfl⟩
  replace H : (if a0_0 = 0 then (some (strOfNums y340)) else ((spec_PutNum.f k a0_1).bind fun t343 => (if y340.length + t343.length < 140737488355328 then ((some (y340 ++ t343 : List Int)).bind fun y346 => ((spec_PutNum.f k a0_2).bind fun t349 => (if y346.length + t349.length < 140737488355328 then ((some (y346 ++ t349 : List Int)).bind fun y352 => ((spec_PutNum.f k a0_3).bind fun t355 => (if y352.length + t355.length < 140737488355328 then (spec_NodeText.l0 k (y352 ++ t355) 0 a0_0 a0_1 a0_2 a0_3 l0_4) else (none)))) else (none)))) else (none)))) = some r := bQ hy340 H
  have Ny340 := aM hy340
  clear hy340
  by_cases c4 : a0_0 = 0
  ·rw [if_pos c4] at H
   have c4b0 : (a0_0 == 0) = true := beq_iff_eq.mpr c4
   have c4b1 : (a0_0 != 0) = false := bne_eq_false_iff_eq.mpr c4
   clear c4
   obtain rfl := Option.some.inj H
   go_enter Try.func39, Try.ntmps39
   go_wp2_with (first | ((with_reducible refine gate_dst (N := 1) rfl ?_); refine bE 1 #[.int .i64 a0_0, .int .i64 a0_1, .int .i64 a0_2, .int .i64 a0_3, .slice A0_4 l0_4.length c0_4] 33 ?_; intro gb338 hg w5 hbox hb; have n_ := aI (sB HB hb) (aI (aM hbox) (aI (gE HB hg) (gE HB hg))); clear HB; obtain ⟨HB, BK338, GW338, GE338⟩ := n_; (try clear hb hbox hg); have hcz6_0 := cZ0 BK338; have hcz6_1 := cZ1 BK338; have hcz6_2 : w5.cell? ⟨gb338, 2, none⟩ = some (.int .i64 a0_2) := (blk_cell BK338.out 2).trans rfl; have hcz6_3 : w5.cell? ⟨gb338, 3, none⟩ = some (.int .i64 a0_3) := (blk_cell BK338.out 3).trans rfl; have hcz6_4 : w5.cell? ⟨gb338, 4, none⟩ = some (.slice A0_4 l0_4.length c0_4) := (blk_cell BK338.out 4).trans rfl; have hfz6_0 := fZ BK338 0; have hfz6_1 := fZ BK338 1; have hfz6_2 := fZ BK338 2; have hfz6_3 := fZ BK338 3; have hfz6_4 := fZ BK338 4) | ((with_reducible refine gate_callee (f := 20) rfl ?_); refine gL (some 6) Try.func20 #[.agg #[.int .i64 a0_0, .int .i64 a0_1, .int .i64 a0_2, .int .i64 a0_3, .slice A0_4 l0_4.length c0_4]] ?_; (with_reducible refine (spec_NodeOk.calls k a0_0 a0_1 a0_2 a0_3 _ _ l0_4 true _ ?side1 ?side2 A2.out).mono ?_); (case side1 => exact cS HR0_4 HB); (case side2 => exact HC0_4.out); rintro e w7 ⟨rfl, hb⟩; refine ⟨_, rfl, ?_⟩; have n_ := aI (kB BK338 hb) (sB HB hb); clear BK338 HB; obtain ⟨BK338, HB⟩ := n_; (try clear hb); have hcz8_0 := cZ0 BK338; have hcz8_1 := cZ1 BK338; have hcz8_2 : w7.cell? ⟨gb338, 2, none⟩ = some (.int .i64 a0_2) := (blk_cell BK338.out 2).trans rfl; have hcz8_3 : w7.cell? ⟨gb338, 3, none⟩ = some (.int .i64 a0_3) := (blk_cell BK338.out 3).trans rfl; have hcz8_4 : w7.cell? ⟨gb338, 4, none⟩ = some (.slice A0_4 l0_4.length c0_4) := (blk_cell BK338.out 4).trans rfl; have hfz8_0 := fZ BK338 0; have hfz8_1 := fZ BK338 1; have hfz8_2 := fZ BK338 2; have hfz8_3 := fZ BK338 3; have hfz8_4 := fZ BK338 4) | ((with_reducible refine gate_dst (N := 11) rfl ?_); refine Kd.R_lit (Kd.int .u8) _ 5 ?hg (N := 11) ?hd (xs := ([(a0_0) % 256] : List Int)) (inner := [.int .u8 ((a0_0) % 256)]) (ok := fun _ => True) (okp := fun _ => True) ?hr ?hp (fun _ hk => hk) trivial (Below.refl _ _) (Nat.le_refl _) (by simp) ?_; (case hd => rfl); (case hg => rfl); (case hr => first | (go_simp; done) | (go_simp; rfl)); (case hp => exact (Reps.one (show Kd.M (Kd.int .u8) _ _ _ ((a0_0) % 256) [.int .u8 ((a0_0) % 256)] from rfl) (Reps.none _ _))); intro v341 w9 ho10 hb hg_ hnew_; clear hg_ hnew_; (first | rw [← Ny340.out] at ho10 | (simp only [Int.reduceToNat] at ho10; rw [← Ny340.out] at ho10)); have n_ := aI (lR HB ho10) (aI (kB BK338 hb) (sB HB hb)); clear BK338 HB; obtain ⟨HO342, BK338, HB⟩ := n_; (try clear hb ho10); have hcz11_0 := cZ0 BK338; have hcz11_1 := cZ1 BK338; have hcz11_2 : w9.cell? ⟨gb338, 2, none⟩ = some (.int .i64 a0_2) := (blk_cell BK338.out 2).trans rfl; have hcz11_3 : w9.cell? ⟨gb338, 3, none⟩ = some (.int .i64 a0_3) := (blk_cell BK338.out 3).trans rfl; have hcz11_4 : w9.cell? ⟨gb338, 4, none⟩ = some (.slice A0_4 l0_4.length c0_4) := (blk_cell BK338.out 4).trans rfl; have hfz11_0 := fZ BK338 0; have hfz11_1 := fZ BK338 1; have hfz11_2 := fZ BK338 2; have hfz11_3 := fZ BK338 3; have hfz11_4 := fZ BK338 4; have hcv12 := own_string (P := Try.prog) Try.underlying39 Try.underlying5 Try.underlying9 (Kd.own_of_R HO342.out)))
   go_ret
   exact ⟨eW, bB⟩
  rw [if_neg c4] at H
  have c4b0 : (a0_0 == 0) = false := beq_eq_false_iff_ne.mpr c4
  have c4b1 : (a0_0 != 0) = true := bne_iff_ne.mpr c4
  replace H := Option.bind_eq_some_iff.mp H
  obtain ⟨t343, A130, H⟩ := H
  try dsimp only at H
  have A13 := aM A130
  clear A130
  by_cases c14 : y340.length + t343.length < 140737488355328
  ·rw [if_pos c14] at H
   have LMc14 := aM c14
   clear c14
   obtain ⟨y346, hy346⟩ : ∃ y_ : List Int, y_ = (y340 ++ t343) := ⟨_, rfl⟩
   replace H : ((spec_PutNum.f k a0_2).bind fun t349 => (if y346.length + t349.length < 140737488355328 then ((some (y346 ++ t349 : List Int)).bind fun y352 => ((spec_PutNum.f k a0_3).bind fun t355 => (if y352.length + t355.length < 140737488355328 then (spec_NodeText.l0 k (y352 ++ t355) 0 a0_0 a0_1 a0_2 a0_3 l0_4) else (none)))) else (none))) = some r := bQ hy346 H
   have Ny346 := aM hy346
   clear hy346
   replace H := Option.bind_eq_some_iff.mp H
   obtain ⟨t349, A150, H⟩ := H
   try dsimp only at H
   have A15 := aM A150
   clear A150
   by_cases c16 : y346.length + t349.length < 140737488355328
   ·rw [if_pos c16] at H
    have LMc16 := aM c16
    clear c16
    obtain ⟨y352, hy352⟩ : ∃ y_ : List Int, y_ = (y346 ++ t349) := ⟨_, rfl⟩
    replace H : ((spec_PutNum.f k a0_3).bind fun t355 => (if y352.length + t355.length < 140737488355328 then (spec_NodeText.l0 k (y352 ++ t355) 0 a0_0 a0_1 a0_2 a0_3 l0_4) else (none))) = some r := bQ hy352 H
    have Ny352 := aM hy352
    clear hy352
    replace H := Option.bind_eq_some_iff.mp H
    obtain ⟨t355, A170, H⟩ := H
    try dsimp only at H
    have A17 := aM A170
    clear A170
    by_cases c18 : y352.length + t355.length < 140737488355328
    ·rw [if_pos c18] at H
     have LMc18 := aM c18
     clear c18
     obtain ⟨y358, hy358⟩ : ∃ y_ : List Int, y_ = (y352 ++ t355) := ⟨_, rfl⟩
     replace H : (spec_NodeText.l0 k y358 0 a0_0 a0_1 a0_2 a0_3 l0_4) = some r := bQ hy358 H
     have Ny358 := aM hy358
     clear hy358
     have H' := aM H
     clear H
     go_enter Try.func39, Try.ntmps39
     go_wp2_with (first | ((with_reducible refine gate_dst (N := 1) rfl ?_); refine bE 1 #[.int .i64 a0_0, .int .i64 a0_1, .int .i64 a0_2, .int .i64 a0_3, .slice A0_4 l0_4.length c0_4] 33 ?_; intro gb338 hg w19 hbox hb; have n_ := aI (sB HB hb) (aI (aM hbox) (aI (gE HB hg) (gE HB hg))); clear HB; obtain ⟨HB, BK338, GW338, GE338⟩ := n_; (try clear hb hbox hg); have hcz20_0 := cZ0 BK338; have hcz20_1 := cZ1 BK338; have hcz20_2 : w19.cell? ⟨gb338, 2, none⟩ = some (.int .i64 a0_2) := (blk_cell BK338.out 2).trans rfl; have hcz20_3 : w19.cell? ⟨gb338, 3, none⟩ = some (.int .i64 a0_3) := (blk_cell BK338.out 3).trans rfl; have hcz20_4 : w19.cell? ⟨gb338, 4, none⟩ = some (.slice A0_4 l0_4.length c0_4) := (blk_cell BK338.out 4).trans rfl; have hfz20_0 := fZ BK338 0; have hfz20_1 := fZ BK338 1; have hfz20_2 := fZ BK338 2; have hfz20_3 := fZ BK338 3; have hfz20_4 := fZ BK338 4) | ((with_reducible refine gate_callee (f := 20) rfl ?_); refine gL (some 6) Try.func20 #[.agg #[.int .i64 a0_0, .int .i64 a0_1, .int .i64 a0_2, .int .i64 a0_3, .slice A0_4 l0_4.length c0_4]] ?_; (with_reducible refine (spec_NodeOk.calls k a0_0 a0_1 a0_2 a0_3 _ _ l0_4 true _ ?side1 ?side2 A2.out).mono ?_); (case side1 => exact cS HR0_4 HB); (case side2 => exact HC0_4.out); rintro e w21 ⟨rfl, hb⟩; refine ⟨_, rfl, ?_⟩; have n_ := aI (kB BK338 hb) (sB HB hb); clear BK338 HB; obtain ⟨BK338, HB⟩ := n_; (try clear hb); have hcz22_0 := cZ0 BK338; have hcz22_1 := cZ1 BK338; have hcz22_2 : w21.cell? ⟨gb338, 2, none⟩ = some (.int .i64 a0_2) := (blk_cell BK338.out 2).trans rfl; have hcz22_3 : w21.cell? ⟨gb338, 3, none⟩ = some (.int .i64 a0_3) := (blk_cell BK338.out 3).trans rfl; have hcz22_4 : w21.cell? ⟨gb338, 4, none⟩ = some (.slice A0_4 l0_4.length c0_4) := (blk_cell BK338.out 4).trans rfl; have hfz22_0 := fZ BK338 0; have hfz22_1 := fZ BK338 1; have hfz22_2 := fZ BK338 2; have hfz22_3 := fZ BK338 3; have hfz22_4 := fZ BK338 4) | ((with_reducible refine gate_dst (N := 11) rfl ?_); refine Kd.R_lit (Kd.int .u8) _ 5 ?hg (N := 11) ?hd (xs := ([(a0_0) % 256] : List Int)) (inner := [.int .u8 ((a0_0) % 256)]) (ok := fun _ => True) (okp := fun _ => True) ?hr ?hp (fun _ hk => hk) trivial (Below.refl _ _) (Nat.le_refl _) (by simp) ?_; (case hd => rfl); (case hg => rfl); (case hr => first | (go_simp; done) | (go_simp; rfl)); (case hp => exact (Reps.one (show Kd.M (Kd.int .u8) _ _ _ ((a0_0) % 256) [.int .u8 ((a0_0) % 256)] from rfl) (Reps.none _ _))); intro v341 w23 ho24 hb hg_ hnew_; clear hg_ hnew_; (first | rw [← Ny340.out] at ho24 | (simp only [Int.reduceToNat] at ho24; rw [← Ny340.out] at ho24)); have n_ := aI (lR HB ho24) (aI (kB BK338 hb) (sB HB hb)); clear BK338 HB; obtain ⟨HO342, BK338, HB⟩ := n_; (try clear hb ho24); have hcz25_0 := cZ0 BK338; have hcz25_1 := cZ1 BK338; have hcz25_2 : w23.cell? ⟨gb338, 2, none⟩ = some (.int .i64 a0_2) := (blk_cell BK338.out 2).trans rfl; have hcz25_3 : w23.cell? ⟨gb338, 3, none⟩ = some (.int .i64 a0_3) := (blk_cell BK338.out 3).trans rfl; have hcz25_4 : w23.cell? ⟨gb338, 4, none⟩ = some (.slice A0_4 l0_4.length c0_4) := (blk_cell BK338.out 4).trans rfl; have hfz25_0 := fZ BK338 0; have hfz25_1 := fZ BK338 1; have hfz25_2 := fZ BK338 2; have hfz25_3 := fZ BK338 3; have hfz25_4 := fZ BK338 4) | ((with_reducible refine gate_callee (f := 50) rfl ?_); refine gL (some 20) Try.func50 #[.int .i64 a0_1] ?_; (with_reducible refine (spec_PutNum.calls k a0_1 t343 _ A13.out).mono ?_); rintro e w26 ⟨v344, rfl, ho0, hb⟩; refine ⟨_, rfl, ?_⟩; have n_ := aI (eR HO342 ho0 hb) (aI (aM (Kd.R_lower (Kd.R_new' ho0 (rL HO342)) (zB HB))) (aI (kB BK338 hb) (sB HB hb))); clear HO342 BK338 HB; obtain ⟨HO342, HO345, BK338, HB⟩ := n_; (try clear hb ho0); obtain ⟨Ao28, co28, eo28⟩ := Kd.R_slice HO345.out; subst eo28) | ((with_reducible refine gate_builtin (b := .append) (xs := #[.tmp 17, .tmp 20]) rfl ?_); at_builtin; refine Kd.R_append_rows (Kd.int .u8) (w0 := w) w.heap.size rfl (.tmp 17) (.tmp 20) 39 5 (.int .u8 0) 1 rfl Try.underlying39 info5 rfl (by decide) (by omega) v341 y340 t343 _ _ _ (fun k_ => some k_ ≠ (.slice Ao28 t343.length co28 : Value).ownBlock) (fun _ => False) rfl rfl ?aO ?aR (fun _ _ h => h) (fun _ h => h.elim) ?aF ?aB ?aS ?aL ?_; (case aR => exact cR HO345); (case aB => exact bB); (case aF => exact (fun k_ hk => Kd.fresh' (rL HO345) k_ hk)); (case aO => exact (rP (Kd.R_mono HO342.out (fun _ hk => hk.2)))); (case aS => exact (zB HB)); (case aL => have := LMc14.out; omega); intro v347 w27 ho hb hg hat; rw [← Ny346.out] at ho; have n_ := aI (aM (blk_grown (g := gb338) (o := .cells #[.int .i64 a0_0, .int .i64 a0_1, .int .i64 a0_2, .int .i64 a0_3, .slice A0_4 l0_4.length c0_4] 33 (0, 0)) (kP BK338) hg (Kd.R_ne HO342.out BK338.out (by decide)))) (aI (aM (Kd.R_after (ok := (fun _ => True)) (rP HO345.out) hg hat)) (aI (aM (hb)) (aM (ho)))); clear BK338 HO345 HB HO342; obtain ⟨BK338, HO345, HB, HO348⟩ := n_; (try clear ho hb hg hat); have hcz29_0 := cZ0 BK338; have hcz29_1 := cZ1 BK338; have hcz29_2 : w27.cell? ⟨gb338, 2, none⟩ = some (.int .i64 a0_2) := (blk_cell BK338.out 2).trans rfl; have hcz29_3 : w27.cell? ⟨gb338, 3, none⟩ = some (.int .i64 a0_3) := (blk_cell BK338.out 3).trans rfl; have hcz29_4 : w27.cell? ⟨gb338, 4, none⟩ = some (.slice A0_4 l0_4.length c0_4) := (blk_cell BK338.out 4).trans rfl; have hfz29_0 := fZ BK338 0; have hfz29_1 := fZ BK338 1; have hfz29_2 := fZ BK338 2; have hfz29_3 := fZ BK338 3; have hfz29_4 := fZ BK338 4) | ((with_reducible refine gate_callee (f := 50) rfl ?_); refine gL (some 25) Try.func50 #[.int .i64 a0_2] ?_; (with_reducible refine (spec_PutNum.calls k a0_2 t349 _ A15.out).mono ?_); rintro e w30 ⟨v350, rfl, ho0, hb⟩; refine ⟨_, rfl, ?_⟩; have n_ := aI (eR HO345 ho0 hb) (aI (eR HO348 ho0 hb) (aI (aM (Kd.R_lower (Kd.R_new' (Kd.R_new' ho0 (rL HO345)) (rL HO348)) (zB HB))) (aI (kB BK338 hb) (sB HB hb)))); clear HO345 HO348 BK338 HB; obtain ⟨HO345, HO348, HO351, BK338, HB⟩ := n_; (try clear hb ho0); obtain ⟨Ao32, co32, eo32⟩ := Kd.R_slice HO351.out; subst eo32) | ((with_reducible refine gate_builtin (b := .append) (xs := #[.tmp 22, .tmp 25]) rfl ?_); at_builtin; refine Kd.R_append_rows (Kd.int .u8) (w0 := w) w.heap.size rfl (.tmp 22) (.tmp 25) 39 5 (.int .u8 0) 1 rfl Try.underlying39 info5 rfl (by decide) (by omega) v347 y346 t349 _ _ _ (fun k_ => some k_ ≠ (.slice Ao28 t343.length co28 : Value).ownBlock ∧ some k_ ≠ (.slice Ao32 t349.length co32 : Value).ownBlock) (fun _ => False) rfl rfl ?aO ?aR (fun _ _ h => h) (fun _ h => h.elim) ?aF ?aB ?aS ?aL ?_; (case aR => exact cR HO351); (case aB => exact bB); (case aF => exact (fun k_ hk => ⟨Kd.fresh' (rL HO345) k_ hk, Kd.fresh' (rL HO351) k_ hk⟩)); (case aO => exact (rP HO348.out)); (case aS => exact (zB HB)); (case aL => have := LMc16.out; omega); intro v353 w31 ho hb hg hat; rw [← Ny352.out] at ho; have n_ := aI (aM (blk_grown (g := gb338) (o := .cells #[.int .i64 a0_0, .int .i64 a0_1, .int .i64 a0_2, .int .i64 a0_3, .slice A0_4 l0_4.length c0_4] 33 (0, 0)) (kP BK338) hg (Kd.R_ne HO348.out BK338.out (by decide)))) (aI (aM (Kd.R_after (ok := (fun k_ => some k_ ≠ (.slice Ao32 t349.length co32 : Value).ownBlock)) (rP (Kd.R_mono HO345.out (fun _ hk => ⟨hk.2, hk.1.2⟩))) hg hat)) (aI (aM (Kd.R_after (ok := (fun k_ => some k_ ≠ (.slice Ao28 t343.length co28 : Value).ownBlock)) (rP (Kd.R_mono HO351.out (fun _ hk => ⟨hk.1.2, hk.2⟩))) hg hat)) (aI (aM (hb)) (aM (ho))))); clear BK338 HO345 HO351 HB HO348; obtain ⟨BK338, HO345, HO351, HB, HO354⟩ := n_; (try clear ho hb hg hat); have hcz33_0 := cZ0 BK338; have hcz33_1 := cZ1 BK338; have hcz33_2 : w31.cell? ⟨gb338, 2, none⟩ = some (.int .i64 a0_2) := (blk_cell BK338.out 2).trans rfl; have hcz33_3 : w31.cell? ⟨gb338, 3, none⟩ = some (.int .i64 a0_3) := (blk_cell BK338.out 3).trans rfl; have hcz33_4 : w31.cell? ⟨gb338, 4, none⟩ = some (.slice A0_4 l0_4.length c0_4) := (blk_cell BK338.out 4).trans rfl; have hfz33_0 := fZ BK338 0; have hfz33_1 := fZ BK338 1; have hfz33_2 := fZ BK338 2; have hfz33_3 := fZ BK338 3; have hfz33_4 := fZ BK338 4) | ((with_reducible refine gate_callee (f := 50) rfl ?_); refine gL (some 30) Try.func50 #[.int .i64 a0_3] ?_; (with_reducible refine (spec_PutNum.calls k a0_3 t355 _ A17.out).mono ?_); rintro e w34 ⟨v356, rfl, ho0, hb⟩; refine ⟨_, rfl, ?_⟩; have n_ := aI (eR HO345 ho0 hb) (aI (eR HO351 ho0 hb) (aI (eR HO354 ho0 hb) (aI (aM (Kd.R_lower (Kd.R_new' (Kd.R_new' (Kd.R_new' ho0 (rL HO345)) (rL HO351)) (rL HO354)) (zB HB))) (aI (kB BK338 hb) (sB HB hb))))); clear HO345 HO351 HO354 BK338 HB; obtain ⟨HO345, HO351, HO354, HO357, BK338, HB⟩ := n_; (try clear hb ho0); obtain ⟨Ao36, co36, eo36⟩ := Kd.R_slice HO357.out; subst eo36) | ((with_reducible refine gate_builtin (b := .append) (xs := #[.tmp 27, .tmp 30]) rfl ?_); at_builtin; refine Kd.R_append_rows (Kd.int .u8) (w0 := w) w.heap.size rfl (.tmp 27) (.tmp 30) 39 5 (.int .u8 0) 1 rfl Try.underlying39 info5 rfl (by decide) (by omega) v353 y352 t355 _ _ _ (fun k_ => some k_ ≠ (.slice Ao28 t343.length co28 : Value).ownBlock ∧ some k_ ≠ (.slice Ao32 t349.length co32 : Value).ownBlock ∧ some k_ ≠ (.slice Ao36 t355.length co36 : Value).ownBlock) (fun _ => False) rfl rfl ?aO ?aR (fun _ _ h => h) (fun _ h => h.elim) ?aF ?aB ?aS ?aL ?_; (case aR => exact cR HO357); (case aB => exact bB); (case aF => exact (fun k_ hk => ⟨Kd.fresh' (rL HO345) k_ hk, Kd.fresh' (rL HO351) k_ hk, Kd.fresh' (rL HO357) k_ hk⟩)); (case aO => exact (rP (Kd.R_mono HO354.out (fun _ hk => ⟨hk.1.1, ⟨hk.1.2, hk.2⟩⟩)))); (case aS => exact (zB HB)); (case aL => have := LMc18.out; omega); intro v359 w35 ho hb hg hat; rw [← Ny358.out] at ho; have n_ := aI (aM (blk_grown (g := gb338) (o := .cells #[.int .i64 a0_0, .int .i64 a0_1, .int .i64 a0_2, .int .i64 a0_3, .slice A0_4 l0_4.length c0_4] 33 (0, 0)) (kP BK338) hg (Kd.R_ne HO354.out BK338.out (by decide)))) (aI (aM (Kd.R_after (ok := (fun k_ => some k_ ≠ (.slice Ao32 t349.length co32 : Value).ownBlock ∧ some k_ ≠ (.slice Ao36 t355.length co36 : Value).ownBlock)) (rP (Kd.R_mono HO345.out (fun _ hk => ⟨⟨hk.1.1, hk.2⟩, hk.1.2⟩))) hg hat)) (aI (aM (Kd.R_after (ok := (fun k_ => some k_ ≠ (.slice Ao28 t343.length co28 : Value).ownBlock ∧ some k_ ≠ (.slice Ao36 t355.length co36 : Value).ownBlock)) (rP (Kd.R_mono HO351.out (fun _ hk => ⟨⟨hk.1.1, hk.2⟩, hk.1.2⟩))) hg hat)) (aI (aM (Kd.R_after (ok := (fun k_ => some k_ ≠ (.slice Ao28 t343.length co28 : Value).ownBlock ∧ some k_ ≠ (.slice Ao32 t349.length co32 : Value).ownBlock)) (rP (Kd.R_mono HO357.out (fun _ hk => ⟨⟨hk.1.1.2, hk.1.2⟩, hk.2⟩))) hg hat)) (aI (aM (hb)) (aM (ho)))))); clear BK338 HO345 HO351 HO357 HB HO354; obtain ⟨BK338, HO345, HO351, HO357, HB, HO360⟩ := n_; (try clear ho hb hg hat)))
     go_loopg [3, 4] k (fun kq v3 v4 w' => ∃ (x3_1 : List Int) (x4_1 : Int), v4 = .int .i64 x4_1 ∧ Aside0 (spec_NodeText.l0 kq x3_1 x4_1 a0_0 a0_1 a0_2 a0_3 l0_4 = some r) ∧ Aside0 (kq ≤ k) ∧ Aside0 (Kd.R (Kd.int .u8) 5 w' w.heap.size (fun _ => True) v3 x3_1) ∧ Aside0 (w'.heap[gb338]? = some (.cells #[.int .i64 a0_0, .int .i64 a0_1, .int .i64 a0_2, .int .i64 a0_3, (.slice A0_4 l0_4.length c0_4)] 33 (0, 0))) ∧ Aside0 (Below w.heap.size w w'))
     case atStart => exact ⟨(y358), (0), (by first | rfl | (simp; done) | (simp [*]; done) | (simp; exact (by intro l_; cases l_ <;> rfl : ∀ l_ : List UInt8, l_.isEmpty = !(l_ != [])) _)), H', ⟨Nat.le_refl _⟩, ⟨rP (Kd.R_mono HO360.out (fun _ hk => trivial))⟩, ⟨kP BK338⟩, ⟨bB⟩⟩
     case round =>
      clear H'
      try clear c1
      try clear hcv1
      try clear c2
      try clear p2
      try clear c3
      try clear c4
      try clear c4b0
      try clear c4b1
      try clear c5
      try clear hcv12
      try clear c14
      try clear c16
      try clear c18
      try clear c20
      try clear hcz11_0
      try clear hcz11_1
      try clear hcz11_2
      try clear hcz11_3
      try clear hcz11_4
      try clear hcz20_0
      try clear hcz20_1
      try clear hcz20_2
      try clear hcz20_3
      try clear hcz20_4
      try clear hcz22_0
      try clear hcz22_1
      try clear hcz22_2
      try clear hcz22_3
      try clear hcz22_4
      try clear hcz25_0
      try clear hcz25_1
      try clear hcz25_2
      try clear hcz25_3
      try clear hcz25_4
      try clear hcz29_0
      try clear hcz29_1
      try clear hcz29_2
      try clear hcz29_3
      try clear hcz29_4
      try clear hcz33_0
      try clear hcz33_1
      try clear hcz33_2
      try clear hcz33_3
      try clear hcz33_4
      try clear hcz6_0
      try clear hcz6_1
      try clear hcz6_2
      try clear hcz6_3
      try clear hcz6_4
      try clear hcz8_0
      try clear hcz8_1
      try clear hcz8_2
      try clear hcz8_3
      try clear hcz8_4
      try clear hfz11_0
      try clear hfz11_1
      try clear hfz11_2
      try clear hfz11_3
      try clear hfz11_4
      try clear hfz20_0
      try clear hfz20_1
      try clear hfz20_2
      try clear hfz20_3
      try clear hfz20_4
      try clear hfz22_0
      try clear hfz22_1
      try clear hfz22_2
      try clear hfz22_3
      try clear hfz22_4
      try clear hfz25_0
      try clear hfz25_1
      try clear hfz25_2
      try clear hfz25_3
      try clear hfz25_4
      try clear hfz29_0
      try clear hfz29_1
      try clear hfz29_2
      try clear hfz29_3
      try clear hfz29_4
      try clear hfz33_0
      try clear hfz33_1
      try clear hfz33_2
      try clear hfz33_3
      try clear hfz33_4
      try clear hfz6_0
      try clear hfz6_1
      try clear hfz6_2
      try clear hfz6_3
      try clear hfz6_4
      try clear hfz8_0
      try clear hfz8_1
      try clear hfz8_2
      try clear hfz8_3
      try clear hfz8_4
      obtain ⟨x3_1, x4_1, rfl, HA, HK1, HO_3, BK338, HB⟩ := hrel
      cases gk with
      | zero => exact absurd HA.out (by simp [spec_NodeText.l0])
      | succ k1 =>
       have H := HA.out
       clear HA
       simp only [spec_NodeText.l0] at H
       by_cases c37 : x4_1 < (l0_4.length : Int)
       ·rw [if_pos c37] at H
        have c37b0 : decide (x4_1 < (l0_4.length : Int)) = true := decide_eq_true c37
        clear c37
        by_cases c38 : 0 ≤ x4_1
        ·rw [if_pos c38] at H
         have c38b0 : decide (0 ≤ x4_1) = true := decide_eq_true c38
         clear c38
         replace H := Option.bind_eq_some_iff.mp H
         obtain ⟨t362, A390, H⟩ := H
         try dsimp only at H
         have A39 := aM A390
         clear A390
         by_cases c40 : x3_1.length + t362.length < 140737488355328
         ·rw [if_pos c40] at H
          have LMc40 := aM c40
          clear c40
          obtain ⟨y365, hy365⟩ : ∃ y_ : List Int, y_ = (x3_1 ++ t362) := ⟨_, rfl⟩
          replace H : (spec_NodeText.l0 k1 y365 (wrap64 (x4_1 + 1)) a0_0 a0_1 a0_2 a0_3 l0_4) = some r := bQ hy365 H
          have Ny365 := aM hy365
          clear hy365
          have H' := aM H
          clear H
          have hcz41_0 := cZ0 BK338
          have hcz41_1 := cZ1 BK338
          have hcz41_2 : wr.cell? ⟨gb338, 2, none⟩ = some (.int .i64 a0_2) := (blk_cell BK338.out 2).trans rfl
          have hcz41_3 : wr.cell? ⟨gb338, 3, none⟩ = some (.int .i64 a0_3) := (blk_cell BK338.out 3).trans rfl
          have hcz41_4 : wr.cell? ⟨gb338, 4, none⟩ = some (.slice A0_4 l0_4.length c0_4) := (blk_cell BK338.out 4).trans rfl
          have hfz41_0 := fZ BK338 0
          have hfz41_1 := fZ BK338 1
          have hfz41_2 := fZ BK338 2
          have hfz41_3 := fZ BK338 3
          have hfz41_4 := fZ BK338 4
          have p361 : 0 ≤ (x4_1 : Int) := dT
          have q361 : x4_1 < (l0_4.length : Int) := dT
          obtain ⟨ad361, e361, hx361_0⟩ := Kd.at_int HR0_4.out x4_1 p361 q361
          cases e361
          replace hx361_0 := (HB.out.cell (World.block_lt_of_cell? w _ hx361_0)).trans hx361_0
          replace p361 := eq_true p361
          replace q361 := eq_true q361
          go_wp2_with (first | ((with_reducible refine gate_callee (f := 50) rfl ?_); refine gL (some 45) Try.func50 #[.int .i64 (rd l0_4 x4_1)] ?_; (with_reducible refine (spec_PutNum.calls k1 (rd l0_4 x4_1) t362 _ A39.out).mono ?_); rintro e w42 ⟨v363, rfl, ho0, hb⟩; refine ⟨_, rfl, ?_⟩; have n_ := aI (eR HO_3 ho0 hb) (aI (aM (Kd.R_lower (Kd.R_new' ho0 (rL HO_3)) (zB HB))) (aI (kB BK338 hb) (sB HB hb))); clear HO_3 BK338 HB; obtain ⟨HO_3, HO364, BK338, HB⟩ := n_; (try clear hb ho0); obtain ⟨Ao44, co44, eo44⟩ := Kd.R_slice HO364.out; subst eo44) | ((with_reducible refine gate_builtin (b := .append) (xs := #[.tmp 39, .tmp 45]) rfl ?_); at_builtin; refine Kd.R_append_rows (Kd.int .u8) (w0 := w) w.heap.size rfl (.tmp 39) (.tmp 45) 39 5 (.int .u8 0) 1 rfl Try.underlying39 info5 rfl (by decide) (by omega) u3 x3_1 t362 _ _ _ (fun k_ => some k_ ≠ (.slice Ao44 t362.length co44 : Value).ownBlock) (fun _ => False) rfl rfl ?aO ?aR (fun _ _ h => h) (fun _ h => h.elim) ?aF ?aB ?aS ?aL ?_; (case aR => exact cR HO364); (case aB => exact bB); (case aF => exact (fun k_ hk => Kd.fresh' (rL HO364) k_ hk)); (case aO => exact (rP (Kd.R_mono HO_3.out (fun _ hk => hk.2)))); (case aS => exact (zB HB)); (case aL => have := LMc40.out; omega); intro v366 w43 ho hb hg hat; rw [← Ny365.out] at ho; have n_ := aI (aM (blk_grown (g := gb338) (o := .cells #[.int .i64 a0_0, .int .i64 a0_1, .int .i64 a0_2, .int .i64 a0_3, .slice (some ad361) l0_4.length c0_4] 33 (0, 0)) (kP BK338) hg (Kd.R_ne HO_3.out BK338.out (by decide)))) (aI (aM (Kd.R_after (ok := (fun _ => True)) (rP HO364.out) hg hat)) (aI (aM (hb)) (aM (ho)))); clear BK338 HO364 HB HO_3; obtain ⟨BK338, HO364, HB, HO367⟩ := n_; (try clear ho hb hg hat)))
          go_roundg k1
          case measure => have := HK1.out; omega
          case rel => exact ⟨(y365), (wrap64 (x4_1 + 1)), (by first | rfl | (simp; done) | (simp [*]; done) | (simp; exact (by intro l_; cases l_ <;> rfl : ∀ l_ : List UInt8, l_.isEmpty = !(l_ != [])) _)), H', ⟨by have := HK1.out; omega⟩, ⟨rP (Kd.R_mono HO367.out (fun _ hk => trivial))⟩, ⟨kP BK338⟩, ⟨bB⟩⟩
         ·rw [if_neg c40] at H
          exact absurd H (by simp)
        ·rw [if_neg c38] at H
         exact absurd H (by simp)
       ·rw [if_neg c37] at H
        have c37b0 : decide (x4_1 < (l0_4.length : Int)) = false := decide_eq_false c37
        clear c37
        obtain rfl := Option.some.inj H
        have hcz45_0 := cZ0 BK338
        have hcz45_1 := cZ1 BK338
        have hcz45_2 : wr.cell? ⟨gb338, 2, none⟩ = some (.int .i64 a0_2) := (blk_cell BK338.out 2).trans rfl
        have hcz45_3 : wr.cell? ⟨gb338, 3, none⟩ = some (.int .i64 a0_3) := (blk_cell BK338.out 3).trans rfl
        have hcz45_4 : wr.cell? ⟨gb338, 4, none⟩ = some (.slice A0_4 l0_4.length c0_4) := (blk_cell BK338.out 4).trans rfl
        have hfz45_0 := fZ BK338 0
        have hfz45_1 := fZ BK338 1
        have hfz45_2 := fZ BK338 2
        have hfz45_3 := fZ BK338 3
        have hfz45_4 := fZ BK338 4
        have hcv46 := own_string (P := Try.prog) Try.underlying39 Try.underlying5 Try.underlying9 (Kd.own_of_R HO_3.out)
        go_wp2
        go_ret
        exact ⟨eW, bB⟩
    rw [if_neg c18] at H
    exact absurd H (by simp)
   rw [if_neg c16] at H
   exact absurd H (by simp)
  rw [if_neg c14] at H
  exact absurd H (by simp)
 replace c3 := Bool.eq_false_iff.mpr c3
 subst c3
 rw [if_neg (show ¬ (false = true) by decide)] at H
 obtain rfl := Option.some.inj H
 go_enter Try.func39, Try.ntmps39
 go_wp2_with (first | ((with_reducible refine gate_dst (N := 1) rfl ?_); refine bE 1 #[.int .i64 a0_0, .int .i64 a0_1, .int .i64 a0_2, .int .i64 a0_3, .slice A0_4 l0_4.length c0_4] 33 ?_; intro gb338 hg w47 hbox hb; have n_ := aI (sB HB hb) (aI (aM hbox) (aI (gE HB hg) (gE HB hg))); clear HB; obtain ⟨HB, BK338, GW338, GE338⟩ := n_; (try clear hb hbox hg); have hcz48_0 := cZ0 BK338; have hcz48_1 := cZ1 BK338; have hcz48_2 : w47.cell? ⟨gb338, 2, none⟩ = some (.int .i64 a0_2) := (blk_cell BK338.out 2).trans rfl; have hcz48_3 : w47.cell? ⟨gb338, 3, none⟩ = some (.int .i64 a0_3) := (blk_cell BK338.out 3).trans rfl; have hcz48_4 : w47.cell? ⟨gb338, 4, none⟩ = some (.slice A0_4 l0_4.length c0_4) := (blk_cell BK338.out 4).trans rfl; have hfz48_0 := fZ BK338 0; have hfz48_1 := fZ BK338 1; have hfz48_2 := fZ BK338 2; have hfz48_3 := fZ BK338 3; have hfz48_4 := fZ BK338 4) | ((with_reducible refine gate_callee (f := 20) rfl ?_); refine gL (some 6) Try.func20 #[.agg #[.int .i64 a0_0, .int .i64 a0_1, .int .i64 a0_2, .int .i64 a0_3, .slice A0_4 l0_4.length c0_4]] ?_; (with_reducible refine (spec_NodeOk.calls k a0_0 a0_1 a0_2 a0_3 _ _ l0_4 false _ ?side1 ?side2 A2.out).mono ?_); (case side1 => exact cS HR0_4 HB); (case side2 => exact HC0_4.out); rintro e w49 ⟨rfl, hb⟩; refine ⟨_, rfl, ?_⟩; have n_ := aI (kB BK338 hb) (sB HB hb); clear BK338 HB; obtain ⟨BK338, HB⟩ := n_; (try clear hb)))
 go_ret
 exact ⟨eW, bB⟩

/-! ### spec_DrawNodeOf: function 19 -/
def spec_DrawNodeOf.f (k : Nat) (l0 : List Int) : Option (ByteArray) := (spec_l1New.f k l0).bind fun bt368 => ((spec_l5Right.f k bt368.1 bt368.2.1 bt368.2.2).bind fun bt372 => ((spec_NodeText.f k bt372.1 bt372.2.1 bt372.2.2.1 bt372.2.2.2.1 bt372.2.2.2.2.1).bind fun t381 => (if t381.size ≤ 9223372036854775807 then ((some (bytesOf t381 : List Int)).bind fun y382 => ((spec_l1Below.f bt368.1 bt372.2.2.2.2.2.1 bt372.2.2.2.2.2.2 6).bind fun bt385 => (if bt385.1 = 0 then ((spec_l1Below.f bt368.1 bt385.2.1 bt385.2.2 (wrap64 ((y382.length : Int) + 1))).bind fun bt388 => (if 0 ≤ bt388.1 then (if bt388.1 ≤ (y382.length : Int) then (some (strOfNums (y382.take (bt388.1 : Int).toNat))) else (none)) else (none))) else (if bt385.1 = 1 then ((spec_l1Below.f bt368.1 bt385.2.1 bt385.2.2 3).bind fun bt394 => (if y382.length < 140737488355328 then (some (strOfNums (y382 ++ [(bt394.1) % 256]))) else (none))) else (if bt385.1 = 2 then ((spec_l1Below.f bt368.1 bt385.2.1 bt385.2.2 (y382.length : Int)).bind fun bt400 => ((spec_l1Byte.f bt368.1 bt400.2.1 bt400.2.2).bind fun bt403 => (if 0 ≤ bt400.1 then (if bt400.1 < (y382.length : Int) then (some (strOfNums (y382.set (bt400.1 : Int).toNat ((bt403.1) % 256)))) else (none)) else (none)))) else (some (strOfNums y382))))))) else (none))))
theorem spec_DrawNodeOf.mono : ∀ a0 k, LeO (spec_DrawNodeOf.f k a0) (spec_DrawNodeOf.f (k + 1) a0) := by
 intro a0 k
 unfold spec_DrawNodeOf.f
 have m0_ := @spec_NodeText.mono
 have m1_ := @spec_l1New.mono
 have m2_ := @spec_l5Right.mono
 exact mM
/-! a row of bytes of the call's own, that a conversion may have made: its block bears a mark behind its cells, so Kd.R and Kd.Q do not tell it -/
def Kb (w : World) (base : Nat) (ok : Nat → Prop) (v : Value) (xs : List Int) : Prop :=
 (∀ k, v.ownBlock = some k → ok k) ∧ ∃ g cap cur lo hi, v = .slice (some ⟨g, 0, none⟩) xs.length cap ∧ base ≤ g ∧ w.heap[g]? = some (.cells cur 5 (lo, hi)) ∧ (lo = hi ∨ cur.size ≤ lo) ∧ xs.length ≤ cap ∧ cur.size = cap ∧ cur.toList.take xs.length = encs (fun n : Int => Value.int .u8 n) xs
section
variable {w w1 W : World} {base : Nat} {ok ok' : Nat → Prop} {v : Value} {xs : List Int}
theorem Kb.open_frozen {g lo hi i : Nat} {cur : Array Value} {t : TypeId} (h : w.heap[g]? = some (.cells cur t (lo, hi))) (hm : lo = hi ∨ cur.size ≤ lo) (hi' : i < cur.size) : w.frozen? ⟨g, i, none⟩ = false := by
 unfold World.frozen?
 rw [h]
 simp only [Bool.and_eq_false_iff, decide_eq_false_iff_not]
 omega
theorem Kb.mono (h : Kb w base ok v xs) (hok : ∀ k, ok k → ok' k) : Kb w base ok' v xs := ⟨fun k hk => hok k (h.1 k hk), h.2⟩
theorem Kb.lower {base' : Nat} (h : Kb w base ok v xs) (hb : base' ≤ base) : Kb w base' ok v xs := by
 obtain ⟨h0, g, cap, cur, lo, hi, e, hg, r⟩ := h
 exact ⟨h0, g, cap, cur, lo, hi, e, Nat.le_trans hb hg, r⟩
theorem Kb.block (h : Kb w base ok v xs) : ∀ k, v.ownBlock = some k → base ≤ k ∧ k < w.heap.size ∧ ∃ cells fz, w.heap[k]? = some (.cells cells 5 fz) := by
 obtain ⟨h0, g, cap, cur, lo, hi, rfl, hg, hh, r⟩ := h
 intro k hk
 have : g = k := by simpa [Value.ownBlock] using hk
 subst this
 exact ⟨hg, (Array.getElem?_eq_some_iff.1 hh).1, cur, _, hh⟩
theorem Kb.move (h : Kb w base ok v xs) (hm : ∀ k, v.ownBlock = some k → w1.heap[k]? = w.heap[k]?) : Kb w1 base ok v xs := by
 obtain ⟨h0, g, cap, cur, lo, hi, rfl, hg, hh, r⟩ := h
 exact ⟨h0, g, cap, cur, lo, hi, rfl, hg, (hm g (by simp [Value.ownBlock])).trans hh, r⟩
theorem Kb.below (h : Kb w base ok v xs) (hb : Below w.heap.size w w1) : Kb w1 base ok v xs := move h (fun k hk => hb.block k (block h k hk).2.1)
theorem Kb.alloc (h : Kb w base ok v xs) (o : Obj) : Kb (w.alloc o) base ok v xs := below h (below_alloc (Below.refl _ _) o)
theorem Kb.drew (h : Kb w base ok v xs) : Kb w.drew base ok v xs := below h (below_drew (Below.refl _ _))
theorem Kb.drewN (h : Kb w base ok v xs) (m : Nat) : Kb (w.drewN m) base ok v xs := below h (pw_below_drewN (Below.refl _ _) m)
theorem Kb.keep (h : Kb w base ok v xs) {g : Nat} (hk : KeepBut w w1 g none) (hok : ∀ k, ok k → k ≠ g) : Kb w1 base ok v xs :=
 move h (fun k hb => hk.2 k (block h k hb).2.1 (hok k (h.1 k hb)) (fun e => by cases e))
theorem Kb.ne (h : Kb w base ok v xs) {g t : Nat} {cells : Array Value} (hb : w.heap[g]? = some (.cells cells t (0, 0))) (ht : 5 ≠ t) : some g ≠ v.ownBlock := by
 intro e
 obtain ⟨_, _, c, fz, hc⟩ := block h g e.symm
 rw [hb] at hc
 injection hc with hc
 injection hc with _ hc
 exact ht hc.symm
theorem Kb.types (h : Kb w base ok v xs) {g t : Nat} {cells : Array Value} (hb : w.heap[g]? = some (.cells cells t (0, 0))) (ht : 5 ≠ t) : Kb w base (fun k => ok k ∧ k ≠ g) v xs :=
 ⟨fun k hk => ⟨h.1 k hk, fun e => ne h hb ht (by rw [← e, hk])⟩, h.2⟩
theorem Kb.form (h : Kb w base ok v xs) : ∃ A c, v = .slice A xs.length c ∧ xs.length ≤ c ∧ 0 ≤ c := by
 obtain ⟨h0, g, cap, cur, lo, hi, e, hg, hh, hm, hc, r⟩ := h
 exact ⟨_, _, e, hc, Nat.zero_le _⟩
theorem Kb.addr (h : Kb w base ok v xs) : ∃ g cap, v = .slice (some ⟨g, 0, none⟩) xs.length cap ∧ base ≤ g := by
 obtain ⟨h0, g, cap, cur, lo, hi, e, hg, _⟩ := h
 exact ⟨_, _, e, hg⟩
theorem Kb.take {A : Option Addr} {n c m : Nat} (h : Kb w base ok (.slice A n c) xs) (hm : m ≤ xs.length) : Kb w base ok (.slice A m c) (xs.take m) := by
 obtain ⟨h0, g, cap, cur, lo, hi, e, hg, hh, hf, hc, hs, ht⟩ := h
 injection e with ea en ec
 subst ea
 subst ec
 have hl : (xs.take m).length = m := by rw [List.length_take]; omega
 refine ⟨fun k hk => h0 k hk, g, c, cur, lo, hi, by rw [hl], hg, hh, hf, by omega, hs, ?_⟩
 rw [hl]
 have : cur.toList.take m = (cur.toList.take xs.length).take m := by rw [List.take_take, Nat.min_eq_left hm]
 rw [this, ht]
 simp [encs]
theorem Kb.room {A : Option Addr} {n c : Nat} (h : Kb w base ok (.slice A n c) xs) : n = xs.length ∧ n ≤ c := by
 obtain ⟨h0, g, cap, cur, lo, hi, e, hg, hh, hf, hc, _⟩ := h
 injection e with ea en ec
 exact ⟨en, by omega⟩
theorem Kb.cell {g n c : Nat} (h : Kb w base ok (.slice (some ⟨g, 0, none⟩) n c) xs) (i : Nat) (hi : i < xs.length) : w.cell? ⟨g, i, none⟩ = some (.int .u8 (xs.getD i 0)) ∧ w.frozen? ⟨g, i, none⟩ = false := by
 obtain ⟨h0, g', cap, cur, lo, hi2, e, hg, hh, hf, hc, hs, ht⟩ := h
 injection e with ea en ec
 injection ea with ea
 injection ea with ea
 subst ea
 refine ⟨?_, open_frozen hh hf (by omega)⟩
 rw [cell_of_row w g i cur 5 _ hh, ← Array.getElem?_toList]
 have h2 : (cur.toList.take xs.length)[i]? = cur.toList[i]? := by rw [List.getElem?_take, if_pos hi]
 rw [← h2, ht]
 simp [encs, List.getD, hi]
theorem Kb.put {g n c : Nat} (h : Kb w base ok (.slice (some ⟨g, 0, none⟩) n c) xs) (i : Nat) (hi : i < xs.length) (x : Int) : Kb (w.setCell ⟨g, i, none⟩ (.int .u8 x)) base ok (.slice (some ⟨g, 0, none⟩) n c) (xs.set i x) ∧ w.grownBy (w.setCell ⟨g, i, none⟩ (.int .u8 x)) (some g) := by
 obtain ⟨h0, g', cap, cur, lo, hi2, e, hg, hh, hf, hc, hs, ht⟩ := h
 injection e with ea en ec
 injection ea with ea
 injection ea with ea
 subst ea
 have hset : (w.setCell ⟨g, i, none⟩ (.int .u8 x)).heap[g]? = some (.cells (cur.setIfInBounds i (.int .u8 x)) 5 (lo, hi2)) := by
  simp [World.setCell, Array.getElem?_modify, hh]
 refine ⟨⟨h0, g, cap, _, lo, hi2, by rw [List.length_set, en, ec], hg, hset, by rw [Array.size_setIfInBounds]; exact hf, by rw [List.length_set]; exact hc, by rw [Array.size_setIfInBounds]; exact hs, ?_⟩, ?_⟩
 ·rw [List.length_set, Array.toList_setIfInBounds, List.take_set, ht]
  simp [encs]
 exact ⟨rfl, rfl, rfl, by simp [World.setCell], fun k _ hk => Below.heap_setCell w ⟨g, i, none⟩ _ k (fun e => hk (by rw [e]))⟩
theorem Kb.made (W : World) (s : ByteArray) (hs : s.size ≤ 9223372036854775807) : Kb (Lib.bytesWorld W 5 s) W.heap.size (fun _ => True) (.slice (some ⟨W.heap.size, 0, none⟩) s.size (grownCap W s.size 0 5)) (bytesOf s) := by
 have hl := bytesOf_length s
 have hc := grownCap_fits W s.size 5
 have hsz : (Lib.bytesCells W 5 s).size = grownCap W s.size 0 5 := by
  unfold Lib.bytesCells
  rw [Array.size_append, Array.size_map, Array.size_replicate]
  have : s.data.size = s.size := rfl
  omega
 refine ⟨fun _ _ => trivial, W.heap.size, grownCap W s.size 0 5, Lib.bytesCells W 5 s, (Lib.bytesCells W 5 s).size, (Lib.bytesCells W 5 s).size + 1, by rw [hl], Nat.le_refl _, ?_, .inr (Nat.le_refl _), by rw [hl]; exact hc, hsz, ?_⟩
 ·simp [Lib.bytesWorld, World.freeze, World.alloc, World.drew, -World.alloc_eq, -World.drew_eq, Array.getElem?_modify, Array.getElem_modify, Array.getElem_push]
 rw [hl]
 unfold Lib.bytesCells
 rw [Array.toList_append, List.take_append_of_le_length (by simp), List.take_of_length_le (by simp)]
 simp [encs, bytesOf]
end
section
variable {w w1 W : World} {base : Nat} {ok ok' : Nat → Prop} {v : Value} {xs : List Int}
theorem Kb.string {P : Program} {src dst e : TypeId} (hs : P.underlying src = some (.slice e)) (he : P.underlying e = some (.int .u8)) (hd : P.underlying dst = some .string) (h : Kb w base ok v xs) : (convert src dst v).run P w = .ok (.string (strOfNums xs)) w := by
 obtain ⟨g, cap, rfl, _⟩ := addr h
 refine run_convert_bytes_arg w src e hs he g 0 xs.length cap xs rfl (fun i hi => ?_) dst hd
 have := (cell h i hi).1
 rwa [Nat.zero_add]
theorem Kb.apart {w0 W : World} {g : Nat} {f0 : List Int} {f1 : Int} {f2 : Int} (h : IsS65 w0 W g f0 f1 f2) (ho : Kb W base ok v xs) : Kb W base (fun k => ok k ∧ k ≠ g) v xs := by
 obtain ⟨A0, c0, hb, hg, hr0⟩ := h
 exact types ho hb (by decide)
theorem Kb.own_ne {w0 W : World} {g : Nat} {f0 : List Int} {f1 : Int} {f2 : Int} (h : IsS65 w0 W g f0 f1 f2) (ho : Kb W base ok v xs) : some g ≠ v.ownBlock := by
 obtain ⟨A0, c0, hb, hg, hr0⟩ := h
 exact ne ho hb (by decide)
theorem Kb.over {α : Type} {d : Kd α} {e : Nat} {okr : Nat → Prop} {u : Value} {ys : List α} (h : d.R e W base okr u ys) (ho : Kb W base ok v xs) (ht : ∀ q, q ∈ e :: d.E → q ≠ 5) (hg : W.grownBy w1 v.ownBlock) : d.R e w1 base okr u ys := by
 refine Kd.R_mono (Kd.R_move (Kd.R_bound h) (fun k hk => hg.block k hk.2.2.1 (fun he => ?_))) (fun _ hk => hk.1)
 obtain ⟨_, _, _, q, hq, cells, hc⟩ := hk
 obtain ⟨_, _, cells', fz, hc'⟩ := block ho k he.symm
 rw [hc] at hc'
 injection hc' with hc'
 injection hc' with _ hc'
 exact ht q hq hc'
theorem Kb.of_own (h : w.ownsRow base 5 1 v xs.length (encs (fun n : Int => Value.int .u8 n) xs)) (hx : 0 < xs.length) : Kb w base (fun _ => True) v xs := by
 rcases h.2 with ⟨_, h0⟩ | ⟨g, cap, cur, he, hb, hg, hnc, hcm, hcs, ht⟩
 ·omega
 exact ⟨fun _ _ => trivial, g, cap, cur, 0, 0, he, hb, hg, .inl rfl, hnc, by omega, by rw [← Nat.mul_one xs.length]; exact ht⟩
end
section
variable {P : Program} {ops : Array Oper} {rest : List Oper} {o : Oper} {a : Act} {Q' : Exit → Act → World → Prop}
theorem Kb.bytes_event {W : World} (hgd : o.guard = none) {N' : Tmp} (_hd : o.dst = some N') (src dst : TypeId) (x : Operand) {u : TypeDesc} (ho : o.op = .convert src dst x) (s : ByteArray) (hx : a.eval x = .string s)
  (hs : P.underlying src = some u) (hdt : P.underlying dst = some (.slice 5)) (he : P.underlying 5 = some (.int .u8)) (hl : s.size ≤ 9223372036854775807)
  (h : ∀ v1 w1, Kb w1 W.heap.size (fun _ => True) v1 (bytesOf s) → Below W.heap.size W w1 → wpList P ops Q' rest (a.put o.dst v1) w1) : wpList P ops Q' (o :: rest) a W :=
 Kd.event_run hgd (run_bytes ho hx hs hdt he) (h _ _ (made W s hl) (bytes_below (Below.refl _ _) (Nat.le_refl _) 5 s))
theorem Kb.append_run {w0 W : World} (base : Nat) (t ty : TypeId) (z : Value) (bytes : Nat)
  (ht : P.underlying t = some (.slice 5)) (hinfo : (P.info? 5).map (fun i => (i.zero, i.size, i.bytes)) = some (some z, 1, bytes)) (hz : z.cells.size = 1) (hb0 : 0 < bytes)
  (v : Value) (xs : List Int) (p : Int) (HO : Kb W base (fun _ => True) v xs) (HB : Below base w0 W) (hbase : base ≤ W.heap.size) (hl : (xs.length + 1) * bytes ≤ 140737488355328) :
  ∃ v1 w1, (Builtin.append_ #[t, t] ty #[v, .slice (some ⟨W.heap.size, 0, none⟩) 1 1]).run P (W.alloc (.cells #[.int .u8 p] 5)) = .ok v1 w1 ∧ Kb w1 base (fun _ => True) v1 (xs ++ [p]) ∧ Below base w0 w1 ∧ W.grownBy w1 v.ownBlock := by
 obtain ⟨i0, hi, hzz⟩ := Option.map_eq_some_iff.1 hinfo
 simp only [Prod.mk.injEq] at hzz
 obtain ⟨hz0, hz1, hz2⟩ := hzz
 have hlen : xs.length + 1 ≤ 140737488355328 := Nat.le_trans (Nat.le_mul_of_pos_right _ hb0) hl
 have hq := alloc HO (.cells #[.int .u8 p] 5)
 have hnews : ∀ j u, ([Value.int .u8 p] : List Value)[j]? = some u → (W.alloc (.cells #[.int .u8 p] 5)).cell? ((⟨W.heap.size, 0, none⟩ : Addr).add j) = some u := by
  simpa using World.news_of_block (cs := #[Value.int .u8 p]) (t := 5) (fr := (0, 0)) (heap_alloc_new W (.cells #[.int .u8 p] 5))
 have hk0 := block HO
 obtain ⟨h0, g, cap, cur, lo, hi2, rfl, hg, hh, hf, hc, hs, htk⟩ := hq
 have hgr : ∀ w1, (W.alloc (.cells #[.int .u8 p] 5)).grownBy w1 (Value.slice (some ⟨g, 0, none⟩) xs.length cap).ownBlock → W.grownBy w1 (Value.slice (some ⟨g, 0, none⟩) xs.length cap).ownBlock := fun w1 h => World.grownBy.trans (World.grownBy_alloc W _ _) h
 by_cases hroom : xs.length + 1 ≤ cap
 ·have hfit : xs.length + 1 ≤ cur.size := by omega
  have hr := run_append_room_cells (P := P) (w := W.alloc (.cells #[.int .u8 p] 5)) t ty 5 i0 ht hi g 0 xs.length cap ⟨W.heap.size, 0, none⟩ 1 1 [.int .u8 p] (by rw [hz1]; rfl) hnews (by simp [Value.oneCell']) hroom
   (fun j hj => by
    have : j = 0 := by simpa using hj
    subst this
    rw [hz1, cell_of_row _ g _ cur 5 (lo, hi2) hh, Array.getElem?_eq_getElem (show 0 + xs.length * 1 + 0 < cur.size by omega)]
    rfl)
   (fun j hj => by
    have : j = 0 := by simpa using hj
    subst this
    rw [hz1]
    exact open_frozen hh hf (by omega))
  rw [hz1] at hr
  have hset : ((W.alloc (.cells #[.int .u8 p] 5)).setCell ⟨g, xs.length, none⟩ (.int .u8 p)).heap[g]? = some (.cells (cur.setIfInBounds xs.length (.int .u8 p)) 5 (lo, hi2)) := by
   simp [World.setCell, Array.getElem?_modify, hh]
  have hsc : (W.alloc (.cells #[.int .u8 p] 5)).setCells g (0 + xs.length * 1) [.int .u8 p] = (W.alloc (.cells #[.int .u8 p] 5)).setCell ⟨g, xs.length, none⟩ (.int .u8 p) := by
   rw [Nat.zero_add, Nat.mul_one]
   rfl
  rw [hsc] at hr
  have hgb : (W.alloc (.cells #[.int .u8 p] 5)).grownBy ((W.alloc (.cells #[.int .u8 p] 5)).setCell ⟨g, xs.length, none⟩ (.int .u8 p)) (Value.slice (some ⟨g, 0, none⟩) xs.length cap).ownBlock :=
   ⟨rfl, rfl, rfl, by simp [World.setCell], fun k _ hk => Below.heap_setCell _ ⟨g, xs.length, none⟩ _ k (fun e => hk (by rw [e]; rfl))⟩
  have hgw := hgr _ hgb
  refine ⟨_, _, hr, ⟨fun _ _ => trivial, g, cap, _, lo, hi2, by rw [List.length_append, List.length_singleton], hg, hset, by rw [Array.size_setIfInBounds]; exact hf, by rw [List.length_append, List.length_singleton]; exact hroom, by rw [Array.size_setIfInBounds]; exact hs, ?_⟩, HB.grown hgw hbase (fun k hk => (hk0 k hk).1), hgw⟩
  rw [List.length_append, List.length_singleton, Array.toList_setIfInBounds, List.take_set]
  have hcl : xs.length < cur.toList.length := by
   have := hs
   rw [Array.length_toList]
   exact hfit
  rw [List.take_succ_eq_append_getElem hcl, htk, List.set_append_right _ _ (by simp [encs])]
  simp [encs]
 obtain ⟨v', w', hr, ho, hg'⟩ := run_append_arg_grows (P := P) (w := W.alloc (.cells #[.int .u8 p] 5)) t ty 5 i0 z 1 bytes ht hi hz0 hz1 hz2 hz (by omega) ⟨g, 0, none⟩ xs.length cap (encs (fun n : Int => Value.int .u8 n) xs) (by simp [encs])
  (fun j u hu => by
   rw [← htk, List.getElem?_take] at hu
   split at hu
   ·rw [show (⟨g, 0, none⟩ : Addr).add j = ⟨g, j, none⟩ by unfold Addr.add; split <;> simp_all, cell_of_row _ g _ cur 5 (lo, hi2) hh, ← Array.getElem?_toList]
    exact hu
   ·cases hu)
  ⟨W.heap.size, 0, none⟩ 1 1 [.int .u8 p] rfl hnews (by omega) (by simp only [maxLen]; omega) hl
 have hgw : W.grownBy w' (Value.slice (some ⟨g, 0, none⟩) xs.length cap).ownBlock := hgr _ ⟨hg'.os, hg'.tape, hg'.output, hg'.size, fun k hk _ => hg'.block k hk (by simp)⟩
 have he : encs (fun n : Int => Value.int .u8 n) xs ++ [.int .u8 p] = encs (fun n : Int => Value.int .u8 n) (xs ++ [p]) := by simp [encs]
 rw [he] at ho
 have hbk : base ≤ (W.alloc (.cells #[.int .u8 p] 5)).heap.size := by rw [World.size_alloc]; omega
 refine ⟨v', w', hr, lower (of_own (by rw [List.length_append, List.length_singleton]; exact ho) (by simp)) hbk, HB.grown hgw hbase (fun k hk => (hk0 k hk).1), hgw⟩
theorem Kb.append_event {w0 W : World} (base : Nat) (hgd : o.guard = none) (s x : Operand) (t : TypeId) (z : Value) (bytes : Nat)
  (ho : o.op = .call { callee := .builtin .append, args := #[s, x], argTypes := #[t, t] })
  (ht : P.underlying t = some (.slice 5)) (hinfo : (P.info? 5).map (fun i => (i.zero, i.size, i.bytes)) = some (some z, 1, bytes)) (hz : z.cells.size = 1) (hb0 : 0 < bytes)
  (v : Value) (xs : List Int) (p : Int) (hs : a.eval s = v) (hx : a.eval x = .slice (some ⟨W.heap.size, 0, none⟩) 1 1)
  (HO : Kb W base (fun _ => True) v xs) (HB : Below base w0 W) (hbase : base ≤ W.heap.size) (hl : (xs.length + 1) * bytes ≤ 140737488355328)
  (h : ∀ v1 w1, Kb w1 base (fun _ => True) v1 (xs ++ [p]) → Below base w0 w1 → W.grownBy w1 v.ownBlock → wpList P ops Q' rest (a.put o.dst v1) w1) :
  wpList P ops Q' (o :: rest) a (W.alloc (.cells #[.int .u8 p] 5)) := by
 obtain ⟨v1, w1, hr, h1, h2, h3⟩ := append_run (P := P) base t o.type z bytes ht hinfo hz hb0 v xs p HO HB hbase hl
 refine wpList_plain hgd fun K hK => ?_
 unfold Oper.wp execOp
 simp only [ho, resolve, invoke, builtin, Sem.run_bind, Sem.run_pure, Result.andThen_ok, List.map_toArray, List.map_cons, List.map_nil, hs, hx, hr]
 exact hK _ _ (h v1 w1 h1 h2 h3)
end
theorem Kb.form2 {w : World} {base : Nat} {ok : Nat → Prop} {v : Value} {xs : List Int} (h : Kb w base ok v xs) (_hp : 0 < xs.length) : ∃ g o cap, v = .slice (some ⟨g, o, none⟩) xs.length cap ∧ base ≤ g ∧ g < w.heap.size ∧ ∃ cells fz, w.heap[g]? = some (.cells cells 5 fz) := by
 obtain ⟨h0, g, cap, cur, lo, hi, e, hg, hh, _⟩ := h
 exact ⟨g, 0, cap, e, hg, (Array.getElem?_eq_some_iff.1 hh).1, cur, _, hh⟩
theorem Kb.off0 {w : World} {base g o n c : Nat} {ok : Nat → Prop} {xs : List Int} (h : Kb w base ok (.slice (some ⟨g, o, none⟩) n c) xs) : o = 0 := by
 obtain ⟨h0, g', cap, cur, lo, hi, e, _⟩ := h
 injection e with ea _ _
 injection ea with ea
 injection ea with _ ea
theorem Kb.cellq (_d : Int) {w : World} {base g o n c : Nat} {ok : Nat → Prop} {xs : List Int} (h : Kb w base ok (.slice (some ⟨g, o, none⟩) n c) xs) (i : Int) (h0 : 0 ≤ i) (hi : i < n) : w.cell? ⟨g, o + i.toNat, none⟩ = some (.int .u8 (xs.getD i.toNat 0)) ∧ w.frozen? ⟨g, o + i.toNat, none⟩ = false := by
 obtain rfl := off0 h
 rw [Nat.zero_add]
 exact cell h i.toNat (by have := (room h).1; omega)
theorem Kb.putq {w : World} {base g o n c : Nat} {ok : Nat → Prop} {xs : List Int} (h : Kb w base ok (.slice (some ⟨g, o, none⟩) n c) xs) (i : Int) (h0 : 0 ≤ i) (hi : i < n) (x : Int) : Kb (w.setCell ⟨g, o + i.toNat, none⟩ (.int .u8 x)) base ok (.slice (some ⟨g, o, none⟩) n c) (xs.set i.toNat x) ∧ w.grownBy (w.setCell ⟨g, o + i.toNat, none⟩ (.int .u8 x)) (some g) := by
 obtain rfl := off0 h
 rw [Nat.zero_add]
 exact put h i.toNat (by have := (room h).1; omega) x
set_option maxHeartbeats 8000000 in
set_option maxRecDepth 100000 in
theorem spec_DrawNodeOf.calls (k : Nat) (A0 : Option Addr) (c0 : Nat) (l0 : List Int) (r : ByteArray) (w : World) (hr0 : Kd.C (Kd.int .u8) w A0 l0.length l0) (hc0 : l0.length ≤ c0) (h : spec_DrawNodeOf.f k l0 = some r) :
  Calls Try.prog 19 #[.slice A0 l0.length c0] w fun e w' => e = .returned (.string r) ∧ Below w.heap.size w w' := by
 have HR0 := aM hr0
 have HC0 := aM hc0
 clear hr0 hc0
 have HB := aM (Below.refl w.heap.size w)
 unfold spec_DrawNodeOf.f at h
 have H := h
 clear h
 replace H := Option.bind_eq_some_iff.mp H
 obtain ⟨⟨t368, t369, t370⟩, A20, H⟩ := H
 try dsimp only at H
 have A2 := aM A20
 clear A20
 replace H := Option.bind_eq_some_iff.mp H
 obtain ⟨⟨t372, t373, t374, t375, t376, t379, t380⟩, A30, H⟩ := H
 try dsimp only at H
 have A3 := aM A30
 clear A30
 replace H := Option.bind_eq_some_iff.mp H
 obtain ⟨t381, A40, H⟩ := H
 try dsimp only at H
 have A4 := aM A40
 clear A40
 by_cases c5 : t381.size ≤ 9223372036854775807
 ·rw [if_pos c5] at H
  have c5b0 := eq_true c5
  have c5b1 : decide (t381.size ≤ 9223372036854775807) = true := decide_eq_true c5
  try have c5b2 : (9223372036854775807 < t381.size) = False := eq_false (Nat.not_lt.2 c5)
  clear c5
  obtain ⟨y382, hy382⟩ : ∃ y_ : List Int, y_ = (bytesOf t381) := ⟨_, rfl⟩
  replace H : ((spec_l1Below.f t368 t379 t380 6).bind fun bt385 => (if bt385.1 = 0 then ((spec_l1Below.f t368 bt385.2.1 bt385.2.2 (wrap64 ((y382.length : Int) + 1))).bind fun bt388 => (if 0 ≤ bt388.1 then (if bt388.1 ≤ (y382.length : Int) then (some (strOfNums (y382.take (bt388.1 : Int).toNat))) else (none)) else (none))) else (if bt385.1 = 1 then ((spec_l1Below.f t368 bt385.2.1 bt385.2.2 3).bind fun bt394 => (if y382.length < 140737488355328 then (some (strOfNums (y382 ++ [(bt394.1) % 256]))) else (none))) else (if bt385.1 = 2 then ((spec_l1Below.f t368 bt385.2.1 bt385.2.2 (y382.length : Int)).bind fun bt400 => ((spec_l1Byte.f t368 bt400.2.1 bt400.2.2).bind fun bt403 => (if 0 ≤ bt400.1 then (if bt400.1 < (y382.length : Int) then (some (strOfNums (y382.set (bt400.1 : Int).toNat ((bt403.1) % 256)))) else (none)) else (none)))) else (some (strOfNums y382)))))) = some r := bQ hy382 H
  have Ny382 := aM hy382
  clear hy382
  replace H := Option.bind_eq_some_iff.mp H
  obtain ⟨⟨t385, t386, t387⟩, A60, H⟩ := H
  try dsimp only at H
  have A6 := aM A60
  clear A60
  by_cases c7 : t385 = 0
  ·rw [if_pos c7] at H
   have c7b0 : (t385 == 0) = true := beq_iff_eq.mpr c7
   have c7b1 : (t385 != 0) = false := bne_eq_false_iff_eq.mpr c7
   clear c7
   replace H := Option.bind_eq_some_iff.mp H
   obtain ⟨⟨t388, t389, t390⟩, A80, H⟩ := H
   try dsimp only at H
   have A8 := aM A80
   clear A80
   by_cases c9 : 0 ≤ t388
   ·rw [if_pos c9] at H
    have c9b0 := eq_true c9
    have c9b1 : decide (0 ≤ t388) = true := decide_eq_true c9
    clear c9
    by_cases c10 : t388 ≤ (y382.length : Int)
    ·rw [if_pos c10] at H
     have c10b0 := eq_true c10
     have c10b1 : decide (t388 ≤ (y382.length : Int)) = true := decide_eq_true c10
     clear c10
     obtain ⟨y391, hy391⟩ : ∃ y_ : List Int, y_ = (y382.take (t388 : Int).toNat) := ⟨_, rfl⟩
     replace H : (some (strOfNums y391)) = some r := bQ hy391 H
     have Ny391 := aM hy391
     clear hy391
     obtain rfl := Option.some.inj H
     go_enter Try.func19, Try.ntmps19
     go_wp2_with (first | ((with_reducible refine gate_callee (f := 37) rfl ?_); refine gL (some 6) Try.func37 #[.slice A0 l0.length c0] ?_; (with_reducible refine (spec_l1New.calls k _ _ l0 t368 t369 t370 w _ ?side1 ?side2 ?side3 A2.out).mono ?_); (case side1 => exact bB); (case side2 => exact HR0.out); (case side3 => exact HC0.out); rintro e w11 ⟨g371, rfl, hi, hb, hb2⟩; refine ⟨_, rfl, ?_⟩; have n_ := aI (aM (hb)) (aM (hi)); clear HB; obtain ⟨HB, HI371⟩ := n_; (try clear hb hb2 hi)) | ((with_reducible refine gate_callee (f := 40) rfl ?_); refine gL (some 8) Try.func40 #[.pointer (some ⟨g371, 0, none⟩)] ?_; (with_reducible refine (spec_l5Right.calls k g371 t368 t369 t370 t372 t373 t374 t375 t376 t379 t380 w _ ?side1 ?side2 A3.out).mono ?_); (case side1 => exact IsS65.iI HI371); (case side2 => exact bB); rintro e w12 ⟨v377, rfl, ho0, hi, hb, hk⟩; refine ⟨_, rfl, ?_⟩; have n_ := aI (lR HB ho0) (aI (aM (hb)) (aM (hi))); clear HB HI371; obtain ⟨HO378, HB, HI371⟩ := n_; (try clear hb hk hi ho0); obtain ⟨Ao13, co13, eo13⟩ := Kd.R_slice HO378.out; subst eo13) | ((with_reducible refine gate_callee (f := 39) rfl ?_); refine gL (some 9) Try.func39 #[.agg #[.int .i64 t372, .int .i64 t373, .int .i64 t374, .int .i64 t375, .slice Ao13 t376.length co13]] ?_; (with_reducible refine (spec_NodeText.calls k t372 t373 t374 t375 _ _ t376 t381 _ ?side1 ?side2 A4.out).mono ?_); (case side1 => exact cR HO378); (case side2 => exact (Kd.R_reads' HO378.out).2.1); rintro e w14 ⟨rfl, hb⟩; refine ⟨_, rfl, ?_⟩; have n_ := aI (rB HO378 hb) (aI (aM (IsS65.below (IsS65.iI HI371) hb)) (sB HB hb)); clear HO378 HI371 HB; obtain ⟨HO378, HI371, HB⟩ := n_; (try clear hb)) | ((with_reducible refine gate_dst (N := 10) rfl ?_); refine Kb.bytes_event rfl (N' := 10) rfl 9 39 _ rfl t381 rfl Try.underlying9 Try.underlying39 Try.underlying5 (by first | (with_reducible assumption) | assumption | exact dT) ?_; intro v383 w15 ho16 hb; rw [← Ny382.out] at ho16; have n_ := aI (rB HO378 hb) (aI (aM (Kb.lower ho16 (zB HB))) (aI (aM (IsS65.below (IsS65.iI HI371) hb)) (sB HB hb))); clear HO378 HI371 HB; obtain ⟨HO378, HO384, HI371, HB⟩ := n_; (try clear hb ho16)) | ((with_reducible refine gate_callee (f := 41) rfl ?_); refine gL (some 12) Try.func41 #[.pointer (some ⟨g371, 0, none⟩), .int .i64 6] ?_; (with_reducible refine (spec_l1Below.calls g371 t368 t379 t380 6 t385 t386 t387 w _ ?side1 ?side2 A6.out).mono ?_); (case side1 => exact IsS65.iI HI371); (case side2 => exact bB); rintro e w17 ⟨rfl, hi, hb, hk⟩; refine ⟨_, rfl, ?_⟩; have n_ := aI (aM (Kd.R_mono (Kd.R_keep (IsS65.apart (show IsS65 w _ g371 t368 t379 t380 from IsS65.iI HI371) (rP HO378.out) (by decide)) hk (fun _ h => h.2)) (fun _ h => h.1))) (aI (aM (Kb.mono (Kb.keep (Kb.apart (show IsS65 w _ g371 t368 t379 t380 from IsS65.iI HI371) (by (with_reducible repeat (first | apply Kb.alloc | apply Kb.drewN | apply Kb.drew)); exact HO384.out)) hk (fun _ h => h.2)) (fun _ h => h.1))) (aI (aM (hb)) (aM (hi)))); clear HO378 HO384 HB HI371; obtain ⟨HO378, HO384, HB, HI371⟩ := n_; (try clear hb hk hi); obtain ⟨Ao18, co18, eo18, _⟩ := Kb.form HO384.out; subst eo18) | ((with_reducible refine gate_callee (f := 41) rfl ?_); refine gL (some 20) Try.func41 #[.pointer (some ⟨g371, 0, none⟩), .int .i64 (wrap64 ((y382.length : Int) + 1))] ?_; (with_reducible refine (spec_l1Below.calls g371 t368 t386 t387 (wrap64 ((y382.length : Int) + 1)) t388 t389 t390 w _ ?side1 ?side2 A8.out).mono ?_); (case side1 => exact IsS65.iI HI371); (case side2 => exact bB); rintro e w19 ⟨rfl, hi, hb, hk⟩; refine ⟨_, rfl, ?_⟩; have n_ := aI (aM (Kd.R_mono (Kd.R_keep (IsS65.apart (show IsS65 w _ g371 t368 t386 t387 from IsS65.iI HI371) (rP HO378.out) (by decide)) hk (fun _ h => h.2)) (fun _ h => h.1))) (aI (aM (Kb.mono (Kb.keep (Kb.apart (show IsS65 w _ g371 t368 t386 t387 from IsS65.iI HI371) (by (with_reducible repeat (first | apply Kb.alloc | apply Kb.drewN | apply Kb.drew)); exact HO384.out)) hk (fun _ h => h.2)) (fun _ h => h.1))) (aI (aM (hb)) (aM (hi)))); clear HO378 HO384 HB HI371; obtain ⟨HO378, HO384, HB, HI371⟩ := n_; (try clear hb hk hi); have q20 : (t388 : Int) ≤ ((y382.length : Int) : Int) := dT; obtain ⟨i020, hi020, _, hsz20, _⟩ := info_parts info5; have hcut20 := cut_to (P := Try.prog) 39 5 .i64 Try.underlying39 hi020 Ao18 y382.length co18 t388 (dT) q20 (Kb.room HO384.out).2; have hr20 := Kb.take (m := (t388 : Int).toNat) HO384.out (by omega); have hy20 : y391.length = (t388 : Int).toNat := (by rw [Ny391.out, List.length_take]; omega); rw [← Ny391.out] at hr20; rw [← hy20] at hr20 hcut20; clear hy20 hi020 hsz20 HO384; have HO393 := aM hr20; clear hr20; replace q20 := eq_true q20; have hcv21 := Kb.string (P := Try.prog) Try.underlying39 Try.underlying5 Try.underlying9 HO393.out))
     go_ret
     exact ⟨eW, bB⟩
    rw [if_neg c10] at H
    exact absurd H (by simp)
   rw [if_neg c9] at H
   exact absurd H (by simp)
  rw [if_neg c7] at H
  have c7b0 : (t385 == 0) = false := beq_eq_false_iff_ne.mpr c7
  have c7b1 : (t385 != 0) = true := bne_iff_ne.mpr c7
  by_cases c22 : t385 = 1
  ·rw [if_pos c22] at H
   have c22b0 : (t385 == 1) = true := beq_iff_eq.mpr c22
   have c22b1 : (t385 != 1) = false := bne_eq_false_iff_eq.mpr c22
   clear c22
   replace H := Option.bind_eq_some_iff.mp H
   obtain ⟨⟨t394, t395, t396⟩, A230, H⟩ := H
   try dsimp only at H
   have A23 := aM A230
   clear A230
   by_cases c24 : y382.length < 140737488355328
   ·rw [if_pos c24] at H
    have LMc24 := aM c24
    clear c24
    obtain ⟨y397, hy397⟩ : ∃ y_ : List Int, y_ = (y382 ++ [(t394) % 256]) := ⟨_, rfl⟩
    replace H : (some (strOfNums y397)) = some r := bQ hy397 H
    have Ny397 := aM hy397
    clear hy397
    obtain rfl := Option.some.inj H
    go_enter Try.func19, Try.ntmps19
    go_wp2_with (first | ((with_reducible refine gate_callee (f := 37) rfl ?_); refine gL (some 6) Try.func37 #[.slice A0 l0.length c0] ?_; (with_reducible refine (spec_l1New.calls k _ _ l0 t368 t369 t370 w _ ?side1 ?side2 ?side3 A2.out).mono ?_); (case side1 => exact bB); (case side2 => exact HR0.out); (case side3 => exact HC0.out); rintro e w25 ⟨g371, rfl, hi, hb, hb2⟩; refine ⟨_, rfl, ?_⟩; have n_ := aI (aM (hb)) (aM (hi)); clear HB; obtain ⟨HB, HI371⟩ := n_; (try clear hb hb2 hi)) | ((with_reducible refine gate_callee (f := 40) rfl ?_); refine gL (some 8) Try.func40 #[.pointer (some ⟨g371, 0, none⟩)] ?_; (with_reducible refine (spec_l5Right.calls k g371 t368 t369 t370 t372 t373 t374 t375 t376 t379 t380 w _ ?side1 ?side2 A3.out).mono ?_); (case side1 => exact IsS65.iI HI371); (case side2 => exact bB); rintro e w26 ⟨v377, rfl, ho0, hi, hb, hk⟩; refine ⟨_, rfl, ?_⟩; have n_ := aI (lR HB ho0) (aI (aM (hb)) (aM (hi))); clear HB HI371; obtain ⟨HO378, HB, HI371⟩ := n_; (try clear hb hk hi ho0); obtain ⟨Ao27, co27, eo27⟩ := Kd.R_slice HO378.out; subst eo27) | ((with_reducible refine gate_callee (f := 39) rfl ?_); refine gL (some 9) Try.func39 #[.agg #[.int .i64 t372, .int .i64 t373, .int .i64 t374, .int .i64 t375, .slice Ao27 t376.length co27]] ?_; (with_reducible refine (spec_NodeText.calls k t372 t373 t374 t375 _ _ t376 t381 _ ?side1 ?side2 A4.out).mono ?_); (case side1 => exact cR HO378); (case side2 => exact (Kd.R_reads' HO378.out).2.1); rintro e w28 ⟨rfl, hb⟩; refine ⟨_, rfl, ?_⟩; have n_ := aI (rB HO378 hb) (aI (aM (IsS65.below (IsS65.iI HI371) hb)) (sB HB hb)); clear HO378 HI371 HB; obtain ⟨HO378, HI371, HB⟩ := n_; (try clear hb)) | ((with_reducible refine gate_dst (N := 10) rfl ?_); refine Kb.bytes_event rfl (N' := 10) rfl 9 39 _ rfl t381 rfl Try.underlying9 Try.underlying39 Try.underlying5 (by first | (with_reducible assumption) | assumption | exact dT) ?_; intro v383 w29 ho30 hb; rw [← Ny382.out] at ho30; have n_ := aI (rB HO378 hb) (aI (aM (Kb.lower ho30 (zB HB))) (aI (aM (IsS65.below (IsS65.iI HI371) hb)) (sB HB hb))); clear HO378 HI371 HB; obtain ⟨HO378, HO384, HI371, HB⟩ := n_; (try clear hb ho30)) | ((with_reducible refine gate_callee (f := 41) rfl ?_); refine gL (some 12) Try.func41 #[.pointer (some ⟨g371, 0, none⟩), .int .i64 6] ?_; (with_reducible refine (spec_l1Below.calls g371 t368 t379 t380 6 t385 t386 t387 w _ ?side1 ?side2 A6.out).mono ?_); (case side1 => exact IsS65.iI HI371); (case side2 => exact bB); rintro e w31 ⟨rfl, hi, hb, hk⟩; refine ⟨_, rfl, ?_⟩; have n_ := aI (aM (Kd.R_mono (Kd.R_keep (IsS65.apart (show IsS65 w _ g371 t368 t379 t380 from IsS65.iI HI371) (rP HO378.out) (by decide)) hk (fun _ h => h.2)) (fun _ h => h.1))) (aI (aM (Kb.mono (Kb.keep (Kb.apart (show IsS65 w _ g371 t368 t379 t380 from IsS65.iI HI371) (by (with_reducible repeat (first | apply Kb.alloc | apply Kb.drewN | apply Kb.drew)); exact HO384.out)) hk (fun _ h => h.2)) (fun _ h => h.1))) (aI (aM (hb)) (aM (hi)))); clear HO378 HO384 HB HI371; obtain ⟨HO378, HO384, HB, HI371⟩ := n_; (try clear hb hk hi)) | ((with_reducible refine gate_callee (f := 41) rfl ?_); refine gL (some 26) Try.func41 #[.pointer (some ⟨g371, 0, none⟩), .int .i64 3] ?_; (with_reducible refine (spec_l1Below.calls g371 t368 t386 t387 3 t394 t395 t396 w _ ?side1 ?side2 A23.out).mono ?_); (case side1 => exact IsS65.iI HI371); (case side2 => exact bB); rintro e w32 ⟨rfl, hi, hb, hk⟩; refine ⟨_, rfl, ?_⟩; have n_ := aI (aM (Kd.R_mono (Kd.R_keep (IsS65.apart (show IsS65 w _ g371 t368 t386 t387 from IsS65.iI HI371) (rP HO378.out) (by decide)) hk (fun _ h => h.2)) (fun _ h => h.1))) (aI (aM (Kb.mono (Kb.keep (Kb.apart (show IsS65 w _ g371 t368 t386 t387 from IsS65.iI HI371) (by (with_reducible repeat (first | apply Kb.alloc | apply Kb.drewN | apply Kb.drew)); exact HO384.out)) hk (fun _ h => h.2)) (fun _ h => h.1))) (aI (aM (hb)) (aM (hi)))); clear HO378 HO384 HB HI371; obtain ⟨HO378, HO384, HB, HI371⟩ := n_; (try clear hb hk hi)) | ((with_reducible refine gate_builtin (b := .append) (xs := #[.tmp 24, .tmp 28]) rfl ?_); at_builtin; refine Kb.append_event (w0 := w) w.heap.size rfl (.tmp 24) (.tmp 28) 39 (.int .u8 0) 1 rfl Try.underlying39 info5 rfl (by omega) v383 y382 ((t394) % 256) rfl rfl ?aO ?aB ?aS ?aL ?_; (case aB => exact bB); (case aO => exact (by (with_reducible repeat (first | apply Kb.alloc | apply Kb.drewN | apply Kb.drew)); exact HO384.out)); (case aS => exact (zB HB)); (case aL => have := LMc24.out; omega); intro v398 w33 ho hb hg; rw [← Ny397.out] at ho; have n_ := aI (aM (IsS65.grown (IsS65.iI HI371) hg (Kb.own_ne HI371.out HO384.out))) (aI (aM (Kb.over (rP HO378.out) (by (with_reducible repeat (first | apply Kb.alloc | apply Kb.drewN | apply Kb.drew)); exact HO384.out) (by decide) hg)) (aI (aM (hb)) (aM (ho)))); clear HI371 HO378 HB HO384; obtain ⟨HI371, HO378, HB, HO399⟩ := n_; (try clear ho hb hg); have hcv34 := Kb.string (P := Try.prog) Try.underlying39 Try.underlying5 Try.underlying9 HO399.out))
    go_ret
    exact ⟨eW, bB⟩
   rw [if_neg c24] at H
   exact absurd H (by simp)
  rw [if_neg c22] at H
  have c22b0 : (t385 == 1) = false := beq_eq_false_iff_ne.mpr c22
  have c22b1 : (t385 != 1) = true := bne_iff_ne.mpr c22
  by_cases c35 : t385 = 2
  ·rw [if_pos c35] at H
   have c35b0 : (t385 == 2) = true := beq_iff_eq.mpr c35
   have c35b1 : (t385 != 2) = false := bne_eq_false_iff_eq.mpr c35
   clear c35
   replace H := Option.bind_eq_some_iff.mp H
   obtain ⟨⟨t400, t401, t402⟩, A360, H⟩ := H
   try dsimp only at H
   have A36 := aM A360
   clear A360
   replace H := Option.bind_eq_some_iff.mp H
   obtain ⟨⟨t403, t404, t405⟩, A370, H⟩ := H
   try dsimp only at H
   have A37 := aM A370
   clear A370
   by_cases c38 : 0 ≤ t400
   ·rw [if_pos c38] at H
    have c38b0 : decide (0 ≤ t400) = true := decide_eq_true c38
    clear c38
    by_cases c39 : t400 < (y382.length : Int)
    ·rw [if_pos c39] at H
     have c39b0 : decide (t400 < (y382.length : Int)) = true := decide_eq_true c39
     clear c39
     obtain ⟨y406, hy406⟩ : ∃ y_ : List Int, y_ = (y382.set (t400 : Int).toNat ((t403) % 256)) := ⟨_, rfl⟩
     replace H : (some (strOfNums y406)) = some r := bQ hy406 H
     have Ny406 := aM hy406
     clear hy406
     obtain rfl := Option.some.inj H
     go_enter Try.func19, Try.ntmps19
     go_wp2_with (first | ((with_reducible refine gate_callee (f := 37) rfl ?_); refine gL (some 6) Try.func37 #[.slice A0 l0.length c0] ?_; (with_reducible refine (spec_l1New.calls k _ _ l0 t368 t369 t370 w _ ?side1 ?side2 ?side3 A2.out).mono ?_); (case side1 => exact bB); (case side2 => exact HR0.out); (case side3 => exact HC0.out); rintro e w41 ⟨g371, rfl, hi, hb, hb2⟩; refine ⟨_, rfl, ?_⟩; have n_ := aI (aM (hb)) (aM (hi)); clear HB; obtain ⟨HB, HI371⟩ := n_; (try clear hb hb2 hi)) | ((with_reducible refine gate_callee (f := 40) rfl ?_); refine gL (some 8) Try.func40 #[.pointer (some ⟨g371, 0, none⟩)] ?_; (with_reducible refine (spec_l5Right.calls k g371 t368 t369 t370 t372 t373 t374 t375 t376 t379 t380 w _ ?side1 ?side2 A3.out).mono ?_); (case side1 => exact IsS65.iI HI371); (case side2 => exact bB); rintro e w42 ⟨v377, rfl, ho0, hi, hb, hk⟩; refine ⟨_, rfl, ?_⟩; have n_ := aI (lR HB ho0) (aI (aM (hb)) (aM (hi))); clear HB HI371; obtain ⟨HO378, HB, HI371⟩ := n_; (try clear hb hk hi ho0); obtain ⟨Ao43, co43, eo43⟩ := Kd.R_slice HO378.out; subst eo43) | ((with_reducible refine gate_callee (f := 39) rfl ?_); refine gL (some 9) Try.func39 #[.agg #[.int .i64 t372, .int .i64 t373, .int .i64 t374, .int .i64 t375, .slice Ao43 t376.length co43]] ?_; (with_reducible refine (spec_NodeText.calls k t372 t373 t374 t375 _ _ t376 t381 _ ?side1 ?side2 A4.out).mono ?_); (case side1 => exact cR HO378); (case side2 => exact (Kd.R_reads' HO378.out).2.1); rintro e w44 ⟨rfl, hb⟩; refine ⟨_, rfl, ?_⟩; have n_ := aI (rB HO378 hb) (aI (aM (IsS65.below (IsS65.iI HI371) hb)) (sB HB hb)); clear HO378 HI371 HB; obtain ⟨HO378, HI371, HB⟩ := n_; (try clear hb)) | ((with_reducible refine gate_dst (N := 10) rfl ?_); refine Kb.bytes_event rfl (N' := 10) rfl 9 39 _ rfl t381 rfl Try.underlying9 Try.underlying39 Try.underlying5 (by first | (with_reducible assumption) | assumption | exact dT) ?_; intro v383 w45 ho46 hb; rw [← Ny382.out] at ho46; have n_ := aI (rB HO378 hb) (aI (aM (Kb.lower ho46 (zB HB))) (aI (aM (IsS65.below (IsS65.iI HI371) hb)) (sB HB hb))); clear HO378 HI371 HB; obtain ⟨HO378, HO384, HI371, HB⟩ := n_; (try clear hb ho46)) | ((with_reducible refine gate_callee (f := 41) rfl ?_); refine gL (some 12) Try.func41 #[.pointer (some ⟨g371, 0, none⟩), .int .i64 6] ?_; (with_reducible refine (spec_l1Below.calls g371 t368 t379 t380 6 t385 t386 t387 w _ ?side1 ?side2 A6.out).mono ?_); (case side1 => exact IsS65.iI HI371); (case side2 => exact bB); rintro e w47 ⟨rfl, hi, hb, hk⟩; refine ⟨_, rfl, ?_⟩; have n_ := aI (aM (Kd.R_mono (Kd.R_keep (IsS65.apart (show IsS65 w _ g371 t368 t379 t380 from IsS65.iI HI371) (rP HO378.out) (by decide)) hk (fun _ h => h.2)) (fun _ h => h.1))) (aI (aM (Kb.mono (Kb.keep (Kb.apart (show IsS65 w _ g371 t368 t379 t380 from IsS65.iI HI371) (by (with_reducible repeat (first | apply Kb.alloc | apply Kb.drewN | apply Kb.drew)); exact HO384.out)) hk (fun _ h => h.2)) (fun _ h => h.1))) (aI (aM (hb)) (aM (hi)))); clear HO378 HO384 HB HI371; obtain ⟨HO378, HO384, HB, HI371⟩ := n_; (try clear hb hk hi); obtain ⟨Ao48, co48, eo48, _⟩ := Kb.form HO384.out; subst eo48) | ((with_reducible refine gate_callee (f := 41) rfl ?_); refine gL (some 36) Try.func41 #[.pointer (some ⟨g371, 0, none⟩), .int .i64 (y382.length : Int)] ?_; (with_reducible refine (spec_l1Below.calls g371 t368 t386 t387 (y382.length : Int) t400 t401 t402 w _ ?side1 ?side2 A36.out).mono ?_); (case side1 => exact IsS65.iI HI371); (case side2 => exact bB); rintro e w49 ⟨rfl, hi, hb, hk⟩; refine ⟨_, rfl, ?_⟩; have n_ := aI (aM (Kd.R_mono (Kd.R_keep (IsS65.apart (show IsS65 w _ g371 t368 t386 t387 from IsS65.iI HI371) (rP HO378.out) (by decide)) hk (fun _ h => h.2)) (fun _ h => h.1))) (aI (aM (Kb.mono (Kb.keep (Kb.apart (show IsS65 w _ g371 t368 t386 t387 from IsS65.iI HI371) (by (with_reducible repeat (first | apply Kb.alloc | apply Kb.drewN | apply Kb.drew)); exact HO384.out)) hk (fun _ h => h.2)) (fun _ h => h.1))) (aI (aM (hb)) (aM (hi)))); clear HO378 HO384 HB HI371; obtain ⟨HO378, HO384, HB, HI371⟩ := n_; (try clear hb hk hi)) | ((with_reducible refine gate_callee (f := 42) rfl ?_); refine gL (some 38) Try.func42 #[.pointer (some ⟨g371, 0, none⟩)] ?_; (with_reducible refine (spec_l1Byte.calls g371 t368 t401 t402 t403 t404 t405 w _ ?side1 ?side2 A37.out).mono ?_); (case side1 => exact IsS65.iI HI371); (case side2 => exact bB); rintro e w50 ⟨rfl, hi, hb, hk⟩; refine ⟨_, rfl, ?_⟩; have n_ := aI (aM (Kd.R_mono (Kd.R_keep (IsS65.apart (show IsS65 w _ g371 t368 t401 t402 from IsS65.iI HI371) (rP HO378.out) (by decide)) hk (fun _ h => h.2)) (fun _ h => h.1))) (aI (aM (Kb.mono (Kb.keep (Kb.apart (show IsS65 w _ g371 t368 t401 t402 from IsS65.iI HI371) (by (with_reducible repeat (first | apply Kb.alloc | apply Kb.drewN | apply Kb.drew)); exact HO384.out)) hk (fun _ h => h.2)) (fun _ h => h.1))) (aI (aM (hb)) (aM (hi)))); clear HO378 HO384 HB HI371; obtain ⟨HO378, HO384, HB, HI371⟩ := n_; (try clear hb hk hi); have p40 : 0 ≤ (t400 : Int) := dT; have q40 : (t400 : Int) < ((y382.length : Int) : Int) := dT; obtain ⟨go40, oo40, co40, eo40, gb40, gl40, cl40, HG40⟩ := Kb.form2 HO384.out (by omega); (first | cases eo40 | (injection eo40 with ea_ en_ ec_; (first | subst ea_ | (injection ea_ with ea_; subst ea_)); subst ec_; clear en_)); have GB40 := aM gb40; have GG40 := aM HG40; clear gb40 gl40 HG40; obtain ⟨hx40_0, hf40_0⟩ := Kb.cellq 0 HO384.out (t400 : Int) p40 q40; replace p40 := eq_true p40; replace q40 := eq_true q40; obtain ⟨hy51_, hz51_⟩ := Kb.cellq 0 HO384.out (t400 : Int) (dT) (dT); have HP51 := Kb.putq HO384.out (t400 : Int) (dT) (by have h_ : (t400 : Int) < ((y382.length : Int) : Int) := dT; first | exact h_ | (have e_ := (Kb.room HO384.out).1; omega) | simpa using h_) ((t403) % 256)) | ((with_reducible refine gate_store (t := 5) (p := 40) rfl ?_); refine store_event (t := 5) (p := 40) (v := ?vo_w52) (w1 := (w50.setCell ⟨go40, oo40 + (t400 : Int).toNat, none⟩ (.int .u8 ((t403) % 256)))) ?hg ?ho ?hn ?hr ?_; (case ho => rfl); (case hg => rfl); (case hn => rfl); (case hr => first | (go_simp; done) | (go_simp; rfl)); intro w52 hw; have hg : w50.grownBy w52 (some go40) := (by rw [hw]; exact HP51.2); have hp_ : Kb w52 w.heap.size (fun _ => True) (.slice (some ⟨go40, oo40, none⟩) y382.length co48) y406 := (by rw [hw, Ny406.out]; exact HP51.1); clear HP51; have n_ := aI (aM (IsS65.grown (IsS65.iI HI371) hg (Kb.own_ne HI371.out HO384.out))) (aI (aM (Kb.over (v := (.slice (some ⟨go40, oo40, none⟩) y382.length co48)) (rP HO378.out) HO384.out (by decide) hg)) (aI (aM (hp_)) (aM ((by rw [hw]; exact below_set (HB.out) GB40.out : Below w.heap.size w w52))))); clear HI371 HO378 HO384 HB; obtain ⟨HI371, HO378, HO384, HB⟩ := n_; (try clear hw); have hcv53 := Kb.string (P := Try.prog) Try.underlying39 Try.underlying5 Try.underlying9 HO384.out))
     go_ret
     exact ⟨eW, bB⟩
    rw [if_neg c39] at H
    exact absurd H (by simp)
   rw [if_neg c38] at H
   exact absurd H (by simp)
  rw [if_neg c35] at H
  have c35b0 : (t385 == 2) = false := beq_eq_false_iff_ne.mpr c35
  have c35b1 : (t385 != 2) = true := bne_iff_ne.mpr c35
  obtain rfl := Option.some.inj H
  go_enter Try.func19, Try.ntmps19
  go_wp2_with (first | ((with_reducible refine gate_callee (f := 37) rfl ?_); refine gL (some 6) Try.func37 #[.slice A0 l0.length c0] ?_; (with_reducible refine (spec_l1New.calls k _ _ l0 t368 t369 t370 w _ ?side1 ?side2 ?side3 A2.out).mono ?_); (case side1 => exact bB); (case side2 => exact HR0.out); (case side3 => exact HC0.out); rintro e w54 ⟨g371, rfl, hi, hb, hb2⟩; refine ⟨_, rfl, ?_⟩; have n_ := aI (aM (hb)) (aM (hi)); clear HB; obtain ⟨HB, HI371⟩ := n_; (try clear hb hb2 hi)) | ((with_reducible refine gate_callee (f := 40) rfl ?_); refine gL (some 8) Try.func40 #[.pointer (some ⟨g371, 0, none⟩)] ?_; (with_reducible refine (spec_l5Right.calls k g371 t368 t369 t370 t372 t373 t374 t375 t376 t379 t380 w _ ?side1 ?side2 A3.out).mono ?_); (case side1 => exact IsS65.iI HI371); (case side2 => exact bB); rintro e w55 ⟨v377, rfl, ho0, hi, hb, hk⟩; refine ⟨_, rfl, ?_⟩; have n_ := aI (lR HB ho0) (aI (aM (hb)) (aM (hi))); clear HB HI371; obtain ⟨HO378, HB, HI371⟩ := n_; (try clear hb hk hi ho0); obtain ⟨Ao56, co56, eo56⟩ := Kd.R_slice HO378.out; subst eo56) | ((with_reducible refine gate_callee (f := 39) rfl ?_); refine gL (some 9) Try.func39 #[.agg #[.int .i64 t372, .int .i64 t373, .int .i64 t374, .int .i64 t375, .slice Ao56 t376.length co56]] ?_; (with_reducible refine (spec_NodeText.calls k t372 t373 t374 t375 _ _ t376 t381 _ ?side1 ?side2 A4.out).mono ?_); (case side1 => exact cR HO378); (case side2 => exact (Kd.R_reads' HO378.out).2.1); rintro e w57 ⟨rfl, hb⟩; refine ⟨_, rfl, ?_⟩; have n_ := aI (rB HO378 hb) (aI (aM (IsS65.below (IsS65.iI HI371) hb)) (sB HB hb)); clear HO378 HI371 HB; obtain ⟨HO378, HI371, HB⟩ := n_; (try clear hb)) | ((with_reducible refine gate_dst (N := 10) rfl ?_); refine Kb.bytes_event rfl (N' := 10) rfl 9 39 _ rfl t381 rfl Try.underlying9 Try.underlying39 Try.underlying5 (by first | (with_reducible assumption) | assumption | exact dT) ?_; intro v383 w58 ho59 hb; rw [← Ny382.out] at ho59; have n_ := aI (rB HO378 hb) (aI (aM (Kb.lower ho59 (zB HB))) (aI (aM (IsS65.below (IsS65.iI HI371) hb)) (sB HB hb))); clear HO378 HI371 HB; obtain ⟨HO378, HO384, HI371, HB⟩ := n_; (try clear hb ho59)) | ((with_reducible refine gate_callee (f := 41) rfl ?_); refine gL (some 12) Try.func41 #[.pointer (some ⟨g371, 0, none⟩), .int .i64 6] ?_; (with_reducible refine (spec_l1Below.calls g371 t368 t379 t380 6 t385 t386 t387 w _ ?side1 ?side2 A6.out).mono ?_); (case side1 => exact IsS65.iI HI371); (case side2 => exact bB); rintro e w60 ⟨rfl, hi, hb, hk⟩; refine ⟨_, rfl, ?_⟩; have n_ := aI (aM (Kd.R_mono (Kd.R_keep (IsS65.apart (show IsS65 w _ g371 t368 t379 t380 from IsS65.iI HI371) (rP HO378.out) (by decide)) hk (fun _ h => h.2)) (fun _ h => h.1))) (aI (aM (Kb.mono (Kb.keep (Kb.apart (show IsS65 w _ g371 t368 t379 t380 from IsS65.iI HI371) (by (with_reducible repeat (first | apply Kb.alloc | apply Kb.drewN | apply Kb.drew)); exact HO384.out)) hk (fun _ h => h.2)) (fun _ h => h.1))) (aI (aM (hb)) (aM (hi)))); clear HO378 HO384 HB HI371; obtain ⟨HO378, HO384, HB, HI371⟩ := n_; (try clear hb hk hi); have hcv61 := Kb.string (P := Try.prog) Try.underlying39 Try.underlying5 Try.underlying9 HO384.out))
  go_ret
  exact ⟨eW, bB⟩
 rw [if_neg c5] at H
 exact absurd H (by simp)



end Go.Proofs.Ytadfimhielcmmaa.PFnNodes
