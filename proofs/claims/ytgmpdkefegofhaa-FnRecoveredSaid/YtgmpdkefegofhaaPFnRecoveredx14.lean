-- Written by xprint.py, a program of this session over the kit's print. Not trusted: Lean checks it.
import Derived.Test.YtgmpdkefegofhaaPFnRecoveredx0
import Derived.Test.YtgmpdkefegofhaaPFnRecoveredx4
import Derived.Test.YtgmpdkefegofhaaPFnRecoveredx10
import Derived.Test.YtgmpdkefegofhaaPFnRecoveredx13
namespace Go.Proofs.Ytgmpdkefegofhaa.PFnRecovered
open Go.RowKit Go.Proofs.YtgmpdkefegofhaaW.PrintWords Go.Proofs.YtgmpdkefegofhaaW.PrintLast Go.Proofs.YtgmpdkefegofhaaW.PrintMore
attribute [local go_sem] max2_int min2_int max_two min_two max_three min_three max_four min_four   -- for this text's walks alone
set_option linter.unusedVariables false
set_option linter.unusedSimpArgs false

/-! ### spec_Commit: function 54 -/
mutual
def spec_Commit.l0 : Nat → Int → List (S65) → List (S92) → Int → Int → Int → ByteArray → Option ((List (S92)))
 | 0, _, _, _, _, _, _, _ => none
 | k + 1, x0, x1, x5, x7, x616000, x616001, x616002 => if x7 < (x1.length : Int) then (if 0 ≤ x7 then ((spec_l4Event.f (wrap64 (1 + x7)) ((rd_T65 x1 x7).f1)).bind fun bt617 => (if x5.length < 4398046511104 then (spec_Commit.l0 k x0 x1 (x5 ++ [(⟨bt617.1, bt617.2.1, bt617.2.2⟩ : S92)]) (wrap64 (x7 + 1)) x616000 x616001 x616002) else (none))) else (none)) else ((spec_HeadText.f k x1).bind fun t623 => ((spec_l4Event.f 0 t623).bind fun bt624 => ((some (([(⟨x616000, x616001, x616002⟩ : S92), (⟨bt624.1, bt624.2.1, bt624.2.2⟩ : S92), (⟨x616000, x616001, x616002⟩ : S92)] : List (S92)) : List (S92))).bind fun y627 => (if x5.length + y627.length < 4398046511104 then (spec_Commit.l1 k x0 x1 (x5 ++ y627) 0 x616000 x616001 x616002) else (none)))))
def spec_Commit.l1 : Nat → Int → List (S65) → List (S92) → Int → Int → Int → ByteArray → Option ((List (S92)))
 | 0, _, _, _, _, _, _, _ => none
 | k + 1, x0, x1, x5, x8, x616000, x616001, x616002 => if x8 < (x1.length : Int) then (if 0 ≤ x8 then ((spec_l4Event.f (wrap64 ((wrap64 (x0 + 1)) + ((rd_T65 x1 x8).f0))) ((rd_T65 x1 x8).f1)).bind fun bt635 => (if x5.length < 4398046511104 then (spec_Commit.l1 k x0 x1 (x5 ++ [(⟨bt635.1, bt635.2.1, bt635.2.2⟩ : S92)]) (wrap64 (x8 + 1)) x616000 x616001 x616002) else (none))) else (none)) else ((spec_l4Event.f 0 (⟨#[]⟩ : ByteArray)).bind fun bt641 => ((some (([(⟨x616000, x616001, x616002⟩ : S92), (⟨bt641.1, bt641.2.1, bt641.2.2⟩ : S92), (⟨x616000, x616001, x616002⟩ : S92)] : List (S92)) : List (S92))).bind fun y644 => (if x5.length + y644.length < 4398046511104 then (some (x5 ++ y644)) else (none))))
end
def spec_Commit.f (k : Nat) (a0 : Int) (l1 : List (S65)) : Option ((List (S92))) := (some (([] : List (S92)) : List (S92))).bind fun y611 => ((spec_TxOk.f k a0 l1).bind fun t614 => (if t614 = true then (spec_Commit.l0 k a0 l1 y611 0 1 0 (⟨#[]⟩ : ByteArray)) else (some y611)))
theorem spec_Commit.mono_l : ∀ k, (∀ y0 y1 y2 y3 y4 y5 y6, LeO (spec_Commit.l0 k y0 y1 y2 y3 y4 y5 y6) (spec_Commit.l0 (k + 1) y0 y1 y2 y3 y4 y5 y6)) ∧ (∀ y0 y1 y2 y3 y4 y5 y6, LeO (spec_Commit.l1 k y0 y1 y2 y3 y4 y5 y6) (spec_Commit.l1 (k + 1) y0 y1 y2 y3 y4 y5 y6))
 | 0 => ⟨fun _ _ _ _ _ _ _ r h => by simp [spec_Commit.l0] at h, fun _ _ _ _ _ _ _ r h => by simp [spec_Commit.l1] at h⟩
 | k + 1 => by
  obtain ⟨ih0, ih1⟩ := spec_Commit.mono_l k
  refine ⟨?_, ?_⟩
  ·intro y0 y1 y2 y3 y4 y5 y6
   unfold spec_Commit.l0
   have m0_ := @spec_HeadText.mono
   have m1_ := @spec_TxOk.mono
   exact mM
  ·intro y0 y1 y2 y3 y4 y5 y6
   unfold spec_Commit.l1
   have m0_ := @spec_HeadText.mono
   have m1_ := @spec_TxOk.mono
   exact mM
theorem spec_Commit.mono : ∀ a0 a1 k, LeO (spec_Commit.f k a0 a1) (spec_Commit.f (k + 1) a0 a1) := by
 intro a0 a1 k
 obtain ⟨ih0, ih1⟩ := spec_Commit.mono_l k
 unfold spec_Commit.f
 have m0_ := @spec_HeadText.mono
 have m1_ := @spec_TxOk.mono
 exact mM
def spec_Commit.T9 : Bool × List (List Nat × List Nat) := (true, [([], []), ([], []), ([], []), ([2], [2]), ([3, 3], [3]), ([], []), ([1, 4, 5], [1, 4, 5]), ([0, 6, 4], [0, 6]), ([7, 7, 0, 1, 2, 3, 4, 5, 6, 7], [0, 7])])
def spec_Commit.B9 : List Nat := [0, 0, 0, 4, 12, 0, 62, 127, 255]
theorem spec_Commit.tab9 : rtab .any (opsOf Try.f54 9) = spec_Commit.T9 := by kernel_rfl
theorem spec_Commit.bits9 : waitsOk spec_Commit.T9.2 spec_Commit.B9 = true := by kernel_rfl
def spec_Commit.T13 : Bool × List (List Nat × List Nat) := (true, [([], []), ([], []), ([1], [1]), ([], []), ([], []), ([3, 4], [3, 4]), ([5], [5]), ([6], [6]), ([2, 7], [2, 7]), ([], []), ([], []), ([9, 10], [9, 10]), ([11], [11]), ([12], [12]), ([8, 13], [8, 13]), ([14], [14]), ([0, 15, 14], [0, 15]), ([16, 16, 0, 1, 2, 3, 4, 5, 6, 7, 8, 9, 10, 11, 12, 13, 14, 15, 16], [0, 16])])
def spec_Commit.B13 : List Nat := [0, 0, 2, 0, 0, 24, 56, 120, 254, 0, 0, 1536, 3584, 7680, 16382, 32766, 65535, 131071]
theorem spec_Commit.tab13 : rtab .any (opsOf Try.f54 13) = spec_Commit.T13 := by kernel_rfl
theorem spec_Commit.bits13 : waitsOk spec_Commit.T13.2 spec_Commit.B13 = true := by kernel_rfl
set_option maxHeartbeats 8000000 in
set_option maxRecDepth 100000 in
theorem spec_Commit.calls (k : Nat) (a0 : Int) (A1 : Option Addr) (c1 : Nat) (l1 : List (S65)) (r : List (S92)) (w : World) (hr1 : Kd.C k65 w A1 l1.length l1) (hc1 : l1.length ≤ c1) (h : spec_Commit.f k a0 l1 = some r) :
  Calls Try.prog 54 #[.int .i64 a0, .slice A1 l1.length c1] w fun e w' => ∃ v0_ : Value, e = .returned (v0_) ∧ Kd.R k92 92 w' w.heap.size (fun _ => True) v0_ r ∧ Below w.heap.size w w' := by
 have hu92 := Try.underlying92
 have HR1 := aM hr1
 have HC1 := aM hc1
 clear hr1 hc1
 have HB := aM (Below.refl w.heap.size w)
 unfold spec_Commit.f at h
 have H := h
 clear h
 obtain ⟨y611, hy611⟩ : ∃ y_ : List (S92), y_ = (([] : List (S92))) := ⟨_, rfl⟩
 replace H : ((spec_TxOk.f k a0 l1).bind fun t614 => (if t614 = true then (spec_Commit.l0 k a0 l1 y611 0 1 0 (⟨#[]⟩ : ByteArray)) else (some y611))) = some r := bQ hy611 H
 have Ny611 := aM hy611
 clear hy611
 replace H := Option.bind_eq_some_iff.mp H
 obtain ⟨t614, A30, H⟩ := H
 try dsimp only at H
 have A3 := aM A30
 clear A30
 by_cases c4 : t614 = true
 ·subst c4
  rw [if_pos rfl] at H
  have H' := aM H
  clear H
  go_enter Try.func54, Try.ntmps54
  go_wp2_with (first | ((with_reducible refine gate_dst (N := 9) rfl ?_); refine Kd.R_lit k92 _ 92 ?hg (N := 9) ?hd (xs := ([] : List (S92))) (inner := []) (ok := fun _ => True) (okp := fun _ => True) ?hr ?hp (fun _ hk => hk) trivial (Below.refl _ _) (Nat.le_refl _) (by simp) ?_; (case hd => rfl); (case hg => rfl); (case hr => first | (go_simp; done) | (go_simp; rfl)); (case hp => exact (Reps.none _ _)); intro v612 w5 ho6 hb hg_ hnew_; clear hg_ hnew_; (first | rw [← Ny611.out] at ho6 | (simp only [Int.reduceToNat] at ho6; rw [← Ny611.out] at ho6)); have n_ := aI (lR HB ho6) (sB HB hb); clear HB; obtain ⟨HO613, HB⟩ := n_; (try clear hb ho6)) | ((with_reducible refine gate_callee (f := 102) rfl ?_); refine gL (some 12) Try.func102 #[.int .i64 a0, .slice A1 l1.length c1] ?_; (with_reducible refine (spec_TxOk.calls k a0 _ _ l1 true _ ?side1 ?side2 A3.out).mono ?_); (case side1 => exact cS HR1 HB); (case side2 => exact HC1.out); rintro e w' ⟨rfl, ⟨nd, rfl⟩⟩; refine ⟨_, rfl, ?_⟩; (try (rw [drewN_self w5]; generalize hq_ : World.drewN w5 _ = w5; have n0_ : Aside0 (Kd.R k92 92 w5 w.heap.size (fun _ => True) v612 y611) := ⟨by rw [← hq_]; exact (rP HO613.out)⟩; have n1_ : Aside0 (Below w.heap.size w w5) := ⟨by rw [← hq_]; exact bB⟩; clear HO613 HB hq_; have HO613 := n0_; have HB := n1_; clear n0_ n1_))) | ((with_reducible refine gate_dst (N := 6) rfl ?_); refine bE 6 #[.int .i64 0, .int .i64 0, .string (⟨#[]⟩ : ByteArray)] 92 ?_; intro gb615 hg w7 hbox hb; have n_ := aI (aM (Kd.R_below (Kd.R_elderB (rP HO613.out) gb615 (Nat.le_of_eq hg.symm)) hb)) (aI (sB HB hb) (aI (aM hbox) (aI (gE HB hg) (gE HB hg)))); clear HO613 HB; obtain ⟨HO613, HB, BK615, GW615, GE615⟩ := n_; (try clear hb hbox hg); have hcz8_0 := cZ0 BK615; have hcz8_1 := cZ1 BK615; have hcz8_2 : w7.cell? ⟨gb615, 2, none⟩ = some (.string (⟨#[]⟩ : ByteArray)) := (blk_cell BK615.out 2).trans rfl; have hfz8_0 := fZ BK615 0; have hfz8_1 := fZ BK615 1; have hfz8_2 := fZ BK615 2))
  go_loopg [5, 7] k (fun kq v5 v7 w' => ∃ (x5_1 : List (S92)) (x7_1 : Int), v7 = .int .i64 x7_1 ∧ Aside0 (spec_Commit.l0 kq a0 l1 x5_1 x7_1 1 0 (⟨#[]⟩ : ByteArray) = some r) ∧ Aside0 (kq ≤ k) ∧ Aside0 (Kd.R k92 92 w' w.heap.size (fun k_ => k_ ≠ gb615) v5 x5_1) ∧ Aside0 (w'.heap[gb615]? = some (.cells #[.int .i64 1, .int .i64 0, .string (⟨#[]⟩ : ByteArray)] 92 (0, 0))) ∧ Aside0 (Below w.heap.size w w'))
  case atStart => exact ⟨(y611), (0), (by first | rfl | (simp; done) | (simp [*]; done) | (simp; exact (by intro l_; cases l_ <;> rfl : ∀ l_ : List UInt8, l_.isEmpty = !(l_ != [])) _)), H', ⟨Nat.le_refl _⟩, ⟨rP (Kd.R_mono (Kd.R_far (p := ⟨gb615, 2, none⟩) (Kd.R_far (p := ⟨gb615, 1, none⟩) (Kd.R_far (p := ⟨gb615, 0, none⟩) (Kd.R_mono HO613.out (fun k_ hk => (⟨hk, hk.2⟩ : _ ∧ k_ ≠ gb615))) (fun _ hk => hk.2) (.int .i64 1)) (fun _ hk => hk.2) (.int .i64 0)) (fun _ hk => hk.2) (.string (⟨#[]⟩ : ByteArray))) (fun _ hk => hk.1.2))⟩, ⟨by (with_reducible repeat (first | apply bN | apply bD | apply bA)); refine blk_put (cs := #[.int .i64 1, .int .i64 0, .string (⟨#[]⟩ : ByteArray)]) ?_ 2 _ rfl; (with_reducible repeat (first | apply bN | apply bD | apply bA)); refine blk_put (cs := #[.int .i64 1, .int .i64 0, .string (⟨#[]⟩ : ByteArray)]) ?_ 1 _ rfl; (with_reducible repeat (first | apply bN | apply bD | apply bA)); refine blk_put (cs := #[.int .i64 0, .int .i64 0, .string (⟨#[]⟩ : ByteArray)]) ?_ 0 _ rfl; (with_reducible repeat (first | apply bN | apply bD | apply bA)); exact BK615.out⟩, ⟨bB⟩⟩
  case round =>
   clear H'
   try clear c1
   try clear p2
   try clear c4
   try clear c5
   try clear hcz8_0
   try clear hcz8_1
   try clear hcz8_2
   try clear hfz8_0
   try clear hfz8_1
   try clear hfz8_2
   obtain ⟨x5_1, x7_1, rfl, HA, HK1, HO_5, BK615, HB⟩ := hrel
   cases gk with
   | zero => exact absurd HA.out (by simp [spec_Commit.l0])
   | succ k1 =>
    have H := HA.out
    clear HA
    simp only [spec_Commit.l0] at H
    by_cases c9 : x7_1 < (l1.length : Int)
    ·rw [if_pos c9] at H
     have c9b0 : decide (x7_1 < (l1.length : Int)) = true := decide_eq_true c9
     clear c9
     by_cases c10 : 0 ≤ x7_1
     ·rw [if_pos c10] at H
      have c10b0 : decide (0 ≤ x7_1) = true := decide_eq_true c10
      clear c10
      replace H := Option.bind_eq_some_iff.mp H
      obtain ⟨⟨t617, t618, t619⟩, A110, H⟩ := H
      try dsimp only at H
      have A11 := aM A110
      clear A110
      by_cases c12 : x5_1.length < 4398046511104
      ·rw [if_pos c12] at H
       have LMc12 := aM c12
       clear c12
       obtain ⟨y620, hy620⟩ : ∃ y_ : List (S92), y_ = (x5_1 ++ [(⟨t617, t618, t619⟩ : S92)]) := ⟨_, rfl⟩
       replace H : (spec_Commit.l0 k1 a0 l1 y620 (wrap64 (x7_1 + 1)) 1 0 (⟨#[]⟩ : ByteArray)) = some r := bQ hy620 H
       have Ny620 := aM hy620
       clear hy620
       have H' := aM H
       clear H
       have p616 : 0 ≤ (x7_1 : Int) := dT
       have q616 : x7_1 < (l1.length : Int) := dT
       obtain ⟨ad616, e616, hx616_0, hx616_1⟩ := at_T65 HR1.out x7_1 p616 q616
       cases e616
       replace hx616_0 := (HB.out.cell (World.block_lt_of_cell? w _ hx616_0)).trans hx616_0
       replace hx616_1 := (HB.out.cell (World.block_lt_of_cell? w _ hx616_1)).trans hx616_1
       replace p616 := eq_true p616
       replace q616 := eq_true q616
       go_wp2_with (first | ((with_reducible refine gate_callee (f := 103) rfl ?_); refine gL (some 30) Try.func103 #[.int .i64 (wrap64 (1 + x7_1)), .string ((rd_T65 l1 x7_1).f1)] ?_; (with_reducible refine (spec_l4Event.calls (wrap64 (1 + x7_1)) ((rd_T65 l1 x7_1).f1) t617 t618 t619 _ A11.out).mono ?_); rintro e w13 ⟨rfl, hb⟩; refine ⟨_, rfl, ?_⟩; have n_ := aI (rB HO_5 hb) (aI (kB BK615 hb) (sB HB hb)); clear HO_5 BK615 HB; obtain ⟨HO_5, BK615, HB⟩ := n_; (try clear hb)) | ((with_reducible refine gate_builtin (b := .append) (xs := #[.tmp 22, .tmp 31]) rfl ?_); at_builtin; refine Kd.R_append k92 (w0 := w) w.heap.size rfl (.tmp 22) (.tmp 31) 54 92 (.agg #[(.int .i64 0), (.int .i64 0), (.string ⟨#[]⟩)]) 32 rfl Try.underlying54 info92 rfl (by decide) (by omega) u5 x5_1 (⟨t617, t618, t619⟩ : S92) [.int .i64 t617, .int .i64 t618, .string t619] (fun k_ => k_ ≠ gb615) (fun _ => False) rfl rfl ?aP (fun _ hk => hk.elim) ?aF ?aO ?aB ?aS ?aL ?_; (case aP => exact k92_mkM _ _ _ (⟨t617, t618, t619⟩ : S92)); (case aB => exact bB); (case aF => exact (fun k_ hk => Kd.freshB (g := gb615) (o := .cells #[.int .i64 1, .int .i64 0, .string (⟨#[]⟩ : ByteArray)] 92 (0, 0)) (kP BK615) k_ hk)); (case aO => exact (rP HO_5.out)); (case aS => exact (zB HB)); (case aL => have := LMc12.out; omega); intro v621 w14 ho hb hg hat; rw [← Ny620.out] at ho; have n_ := aI (aM (blk_grown (g := gb615) (o := .cells #[.int .i64 1, .int .i64 0, .string (⟨#[]⟩ : ByteArray)] 92 (0, 0)) (kP BK615) hg (Kd.R_away HO_5.out (fun _ hk => hk)))) (aI (aM (hb)) (aM (ho))); clear BK615 HB HO_5; obtain ⟨BK615, HB, HO622⟩ := n_; (try clear ho hb hg hat)))
       go_roundg k1
       case measure => have := HK1.out; omega
       case rel => exact ⟨(y620), (wrap64 (x7_1 + 1)), (by first | rfl | (simp; done) | (simp [*]; done) | (simp; exact (by intro l_; cases l_ <;> rfl : ∀ l_ : List UInt8, l_.isEmpty = !(l_ != [])) _)), H', ⟨by have := HK1.out; omega⟩, ⟨rP HO622.out⟩, ⟨kP BK615⟩, ⟨bB⟩⟩
      ·rw [if_neg c12] at H
       exact absurd H (by simp)
     ·rw [if_neg c10] at H
      exact absurd H (by simp)
    ·rw [if_neg c9] at H
     have c9b0 : decide (x7_1 < (l1.length : Int)) = false := decide_eq_false c9
     clear c9
     replace H := Option.bind_eq_some_iff.mp H
     obtain ⟨t623, A150, H⟩ := H
     try dsimp only at H
     have A15 := aM A150
     clear A150
     replace H := Option.bind_eq_some_iff.mp H
     obtain ⟨⟨t624, t625, t626⟩, A160, H⟩ := H
     try dsimp only at H
     have A16 := aM A160
     clear A160
     obtain ⟨y627, hy627⟩ : ∃ y_ : List (S92), y_ = (([(⟨1, 0, (⟨#[]⟩ : ByteArray)⟩ : S92), (⟨t624, t625, t626⟩ : S92), (⟨1, 0, (⟨#[]⟩ : ByteArray)⟩ : S92)] : List (S92))) := ⟨_, rfl⟩
     replace H : (if x5_1.length + y627.length < 4398046511104 then (spec_Commit.l1 k1 a0 l1 (x5_1 ++ y627) 0 1 0 (⟨#[]⟩ : ByteArray)) else (none)) = some r := bQ hy627 H
     have Ny627 := aM hy627
     clear hy627
     by_cases c17 : x5_1.length + y627.length < 4398046511104
     ·rw [if_pos c17] at H
      have LMc17 := aM c17
      clear c17
      obtain ⟨y630, hy630⟩ : ∃ y_ : List (S92), y_ = (x5_1 ++ y627) := ⟨_, rfl⟩
      replace H : (spec_Commit.l1 k1 a0 l1 y630 0 1 0 (⟨#[]⟩ : ByteArray)) = some r := bQ hy630 H
      have Ny630 := aM hy630
      clear hy630
      have H' := aM H
      clear H
      try go_wp2
      have n_ := aI (aM (Kd.R_drew HO_5.out)) (aI (aM (blk_drew BK615.out)) (aM (below_drew1 HB.out)))
      clear HO_5 BK615 HB
      obtain ⟨HO_5, BK615, HB⟩ := n_
      refine start_ (n := 9) (S := fun w' => w'.cell? ⟨gb615, 0, none⟩ = some (.int .i64 1) ∧ w'.cell? ⟨gb615, 1, none⟩ = some (.int .i64 0) ∧ w'.cell? ⟨gb615, 2, none⟩ = some (.string (⟨#[]⟩ : ByteArray))) (ds := []) #[tF, tF, tF, tF, tF, tF, tF, tF, tF] (by kernel_rfl) rfl rfl ⟨(blk_cell BK615.out 0).trans rfl, (blk_cell BK615.out 1).trans rfl, (blk_cell BK615.out 2).trans rfl⟩ (fun hHeld => ?_); refine with_tabW spec_Commit.tab9 spec_Commit.bits9 (fun HT_ HW_ => ?_)
      generalize wr.drew = w18 at HO_5 BK615 HB hHeld ⊢
      refine pY 0 33 #[tT, tF, tF, tF, tF, tF, tF, tF, tF] ?_
      refine pY 2 35 #[tT, tF, tT, tF, tF, tF, tF, tF, tF] ?_
      refine take_ (i := 1) (N := some 34) (v := ?_) (a' := ?_) #[tT, tT, tT, tF, tF, tF, tF, tF, tF] rfl rfl (take_ofW HT_.out HW_.out (by kernel_rfl)) (fun _ _ _ h => h) (Or.inl ⟨by rfl, ?_⟩) hHeld ?_ ?_
      rotate_left
      ·rintro w' ⟨s0, s1, s2⟩
       go_simp
       with_reducible rfl
      rotate_left
      ·simp only [Act.put, List.setIfInBounds_toArray, List.set_cons_zero, List.set_cons_succ, i64_w, i32_w]
       rfl
      refine take_ (i := 5) (N := some 38) (v := ?_) (a' := ?_) #[tT, tT, tT, tF, tF, tT, tF, tF, tF] rfl rfl (take_ofW HT_.out HW_.out (by kernel_rfl)) (fun _ _ _ h => h) (Or.inl ⟨by rfl, ?_⟩) hHeld ?_ ?_
      rotate_left
      ·rintro w' ⟨s0, s1, s2⟩
       go_simp
       with_reducible rfl
      rotate_left
      ·simp only [Act.put, List.setIfInBounds_toArray, List.set_cons_zero, List.set_cons_succ, i64_w, i32_w]
       rfl
      refine one_ (i := 3) (N := some 36) #[tT, tT, tT, tT, tF, tT, tF, tF, tF] rfl rfl (one_of HT_.out (by kernel_rfl)) (by decide) (fun K hK => ?_)
      refine goes_ Try.func104 (by kernel_rfl) rfl #[.slice A1 l1.length c1] (by rfl) rfl rfl (by (try simp only [List.map_toArray, List.map_cons, List.map_nil]); first | done | rfl | (simp only [List.length_drop, List.length_take]; rfl)) ?_
      with_reducible refine (spec_HeadText.calls k1 _ _ l1 t623 _ ?side1 ?side2 A15.out).mono ?_
      (case side1 => exact cS HR1 HB)
      (case side2 => exact HC1.out)
      rintro e w19 ⟨rfl, hb⟩
      refine ⟨_, rfl, ?_⟩
      have n_ := aI (rB HO_5 hb) (aI (kB BK615 hb) (sB HB hb))
      clear HO_5 BK615 HB
      obtain ⟨HO_5, BK615, HB⟩ := n_
      (try clear hb)
      (try clear hb2)
      (try clear hk)
      (try clear hi)
      refine hK.out _ _ ⟨(blk_cell BK615.out 0).trans rfl, (blk_cell BK615.out 1).trans rfl, (blk_cell BK615.out 2).trans rfl⟩ (fun hHeld => ?_)
      clear hK K
      refine norm_ (a' := ?_) ?_ ?_
      rotate_left
      ·show Act.put _ (some 36) _ = _
       simp only [Act.put, List.setIfInBounds_toArray, List.set_cons_zero, List.set_cons_succ, i64_w, i32_w]
       rfl
      refine one_ (i := 4) (N := some 37) #[tT, tT, tT, tT, tT, tT, tF, tF, tF] rfl rfl (one_of HT_.out (by kernel_rfl)) (by decide) (fun K hK => ?_)
      refine goes_ Try.func103 (by kernel_rfl) rfl #[.int .i64 0, .string t623] (by rfl) rfl rfl (by (try simp only [List.map_toArray, List.map_cons, List.map_nil]); first | done | rfl | (simp only [List.length_drop, List.length_take]; rfl)) ?_
      with_reducible refine (spec_l4Event.calls 0 t623 t624 t625 t626 _ A16.out).mono ?_
      rintro e w20 ⟨rfl, hb⟩
      refine ⟨_, rfl, ?_⟩
      have n_ := aI (rB HO_5 hb) (aI (kB BK615 hb) (sB HB hb))
      clear HO_5 BK615 HB
      obtain ⟨HO_5, BK615, HB⟩ := n_
      (try clear hb)
      (try clear hb2)
      (try clear hk)
      (try clear hi)
      refine hK.out _ _ ⟨(blk_cell BK615.out 0).trans rfl, (blk_cell BK615.out 1).trans rfl, (blk_cell BK615.out 2).trans rfl⟩ (fun hHeld => ?_)
      clear hK K
      refine norm_ (a' := ?_) ?_ ?_
      rotate_left
      ·show Act.put _ (some 37) _ = _
       simp only [Act.put, List.setIfInBounds_toArray, List.set_cons_zero, List.set_cons_succ, i64_w, i32_w]
       rfl
      refine one_ (i := 6) (N := some 39) #[tT, tT, tT, tT, tT, tT, tT, tF, tF] rfl rfl (one_of HT_.out (by kernel_rfl)) (by decide) (fun K hK => ?_)
      refine Kd.R_lit_step k92 _ 92 ?hg (N := 39) ?hd (xs := ([(⟨1, 0, (⟨#[]⟩ : ByteArray)⟩ : S92), (⟨t624, t625, t626⟩ : S92), (⟨1, 0, (⟨#[]⟩ : ByteArray)⟩ : S92)] : List (S92))) (inner := [.int .i64 1, .int .i64 0, .string (⟨#[]⟩ : ByteArray), .int .i64 t624, .int .i64 t625, .string t626, .int .i64 1, .int .i64 0, .string (⟨#[]⟩ : ByteArray)]) (ok := fun _ => True) (okp := fun _ => True) ?hr ?hp (fun _ hk => hk) trivial (Below.refl _ _) (Nat.le_refl _) (by simp) ?_; (case hd => rfl); (case hg => rfl); (case hr => first | (go_simp; done) | (go_simp; rfl)); (case hp => exact (Reps.c3 (show Kd.M k92 _ _ _ (⟨1, 0, (⟨#[]⟩ : ByteArray)⟩ : S92) [.int .i64 1, .int .i64 0, .string (⟨#[]⟩ : ByteArray)] from (k92_mkM _ _ _ (⟨1, 0, (⟨#[]⟩ : ByteArray)⟩ : S92) )) (Reps.c3 (show Kd.M k92 _ _ _ (⟨t624, t625, t626⟩ : S92) [.int .i64 t624, .int .i64 t625, .string t626] from (k92_mkM _ _ _ (⟨t624, t625, t626⟩ : S92) )) (Reps.c3 (show Kd.M k92 _ _ _ (⟨1, 0, (⟨#[]⟩ : ByteArray)⟩ : S92) [.int .i64 1, .int .i64 0, .string (⟨#[]⟩ : ByteArray)] from (k92_mkM _ _ _ (⟨1, 0, (⟨#[]⟩ : ByteArray)⟩ : S92) )) (Reps.none _ _)))))
      intro v628 w21 ho22 hb hg_ hnew_
      clear hg_ hnew_
      (first | rw [← Ny627.out] at ho22 | (simp only [Int.reduceToNat] at ho22; rw [← Ny627.out] at ho22))
      have n_ := aI (eR HO_5 ho22 hb) (aI (aM (Kd.R_lower (Kd.R_newB (Kd.R_new' ho22 (rL HO_5)) (g := gb615) (o := .cells #[.int .i64 1, .int .i64 0, .string (⟨#[]⟩ : ByteArray)] 92 (0, 0)) (kP BK615)) (zB HB))) (aI (kB BK615 hb) (sB HB hb)))
      clear HO_5 BK615 HB
      obtain ⟨HO_5, HO629, BK615, HB⟩ := n_
      clear hb ho22
      obtain ⟨Ao24, co24, eo24⟩ := Kd.R_slice HO629.out
      (first | subst eo24 | (injection eo24 with f1_ f2_ f3_; have f4_ := f1_.symm; have f5_ := f3_.symm; clear f1_ f2_ f3_; subst f4_; subst f5_))
      refine hK.out _ _ ⟨(blk_cell BK615.out 0).trans rfl, (blk_cell BK615.out 1).trans rfl, (blk_cell BK615.out 2).trans rfl⟩ (fun hHeld => ?_)
      clear hK K
      refine norm_ (a' := ?_) ?_ ?_
      rotate_left
      ·show Act.put _ (some 39) _ = _
       simp only [Act.put, List.setIfInBounds_toArray, List.set_cons_zero, List.set_cons_succ, i64_w, i32_w]
       rfl
      refine one_ (i := 7) (N := some 40) #[tT, tT, tT, tT, tT, tT, tT, tT, tF] rfl rfl (one_of HT_.out (by kernel_rfl)) (by decide) (fun K hK => ?_)
      refine Kd.R_append_rows_step k92 (w0 := w) w.heap.size (by rfl) (.tmp 33) (.tmp 39) 54 92 (.agg #[(.int .i64 0), (.int .i64 0), (.string ⟨#[]⟩)]) 32 rfl Try.underlying54 info92 rfl (by decide) (by omega) u5 x5_1 y627 _ _ _ (fun k_ => some k_ ≠ (.slice Ao24 y627.length co24 : Value).ownBlock ∧ k_ ≠ gb615) (fun _ => False) rfl rfl ?aO ?aR (fun _ _ h => h) (fun _ h => h.elim) ?aF ?aB ?aS ?aL ?_
      (case aR => exact cR HO629)
      (case aB => exact bB)
      (case aF => exact (fun k_ hk => ⟨Kd.fresh' (rL HO629) k_ hk, Kd.freshB (g := gb615) (o := .cells #[.int .i64 1, .int .i64 0, .string (⟨#[]⟩ : ByteArray)] 92 (0, 0)) (kP BK615) k_ hk⟩))
      (case aO => exact (rP (Kd.R_mono HO_5.out (fun _ hk => ⟨hk.2, hk.1⟩))))
      (case aS => exact (zB HB))
      (case aL => have := LMc17.out; omega)
      intro v631 w23 ho hb hg hat
      rw [← Ny630.out] at ho
      have n_ := aI (aM (blk_grown (g := gb615) (o := .cells #[.int .i64 1, .int .i64 0, .string (⟨#[]⟩ : ByteArray)] 92 (0, 0)) (kP BK615) hg (Kd.R_away HO_5.out (fun _ hk => hk.1)))) (aI (aM (Kd.R_after (ok := (fun k_ => k_ ≠ gb615)) (rP (Kd.R_mono HO629.out (fun _ hk => ⟨hk.2, hk.1.2⟩))) hg hat)) (aI (aM (hb)) (aM (ho))))
      clear BK615 HO629 HB HO_5
      obtain ⟨BK615, HO629, HB, HO632⟩ := n_
      clear ho hb hg hat
      refine hK.out _ _ ⟨(blk_cell BK615.out 0).trans rfl, (blk_cell BK615.out 1).trans rfl, (blk_cell BK615.out 2).trans rfl⟩ (fun hHeld => ?_)
      clear hK K
      refine norm_ (a' := ?_) ?_ ?_
      rotate_left
      ·show Act.put _ (some 40) _ = _
       simp only [Act.put, List.setIfInBounds_toArray, List.set_cons_zero, List.set_cons_succ, i64_w, i32_w]
       rfl
      refine pY 8 5 #[tT, tT, tT, tT, tT, tT, tT, tT, tT] ?_
      refine done_ (done_of HT_.out (by kernel_rfl)) ?_
      try go_wp2
      go_loopg [5, 8] k1 (fun kq v5 v8 w' => ∃ (x5_2 : List (S92)) (x8_2 : Int), v8 = .int .i64 x8_2 ∧ Aside0 (spec_Commit.l1 kq a0 l1 x5_2 x8_2 1 0 (⟨#[]⟩ : ByteArray) = some r) ∧ Aside0 (kq ≤ k1) ∧ Aside0 (Kd.R k92 92 w' w.heap.size (fun k_ => k_ ≠ gb615) v5 x5_2) ∧ Aside0 (w'.heap[gb615]? = some (.cells #[.int .i64 1, .int .i64 0, .string (⟨#[]⟩ : ByteArray)] 92 (0, 0))) ∧ Aside0 (Below w.heap.size w w'))
      case atStart => exact ⟨(y630), (0), (by first | rfl | (simp; done) | (simp [*]; done) | (simp; exact (by intro l_; cases l_ <;> rfl : ∀ l_ : List UInt8, l_.isEmpty = !(l_ != [])) _)), H', ⟨Nat.le_refl _⟩, ⟨rP (Kd.R_mono HO632.out (fun _ hk => hk.2))⟩, ⟨kP BK615⟩, ⟨bB⟩⟩
      case round =>
       clear H'
       try clear c1
       try clear p2
       try clear c3
       try clear c4
       try clear c5
       try clear p6
       try clear q6
       try clear hx6
       try clear c9
       try clear c9b0
       try clear c10
       try clear c10b0
       try clear c12
       try clear c17
       try clear hcz8_0
       try clear hcz8_1
       try clear hcz8_2
       try clear hfz8_0
       try clear hfz8_1
       try clear hfz8_2
       try clear hx616_0
       try clear hx616_1
       try clear p2
       try clear p616
       try clear q616
       obtain ⟨x5_2, x8_2, rfl, HA, HK2, HO_5, BK615, HB⟩ := hrel
       cases gk with
       | zero => exact absurd HA.out (by simp [spec_Commit.l1])
       | succ k2 =>
        have H := HA.out
        clear HA
        simp only [spec_Commit.l1] at H
        by_cases c25 : x8_2 < (l1.length : Int)
        ·rw [if_pos c25] at H
         have c25b0 : decide (x8_2 < (l1.length : Int)) = true := decide_eq_true c25
         clear c25
         by_cases c26 : 0 ≤ x8_2
         ·rw [if_pos c26] at H
          have c26b0 : decide (0 ≤ x8_2) = true := decide_eq_true c26
          clear c26
          replace H := Option.bind_eq_some_iff.mp H
          obtain ⟨⟨t635, t636, t637⟩, A270, H⟩ := H
          try dsimp only at H
          have A27 := aM A270
          clear A270
          by_cases c28 : x5_2.length < 4398046511104
          ·rw [if_pos c28] at H
           have LMc28 := aM c28
           clear c28
           obtain ⟨y638, hy638⟩ : ∃ y_ : List (S92), y_ = (x5_2 ++ [(⟨t635, t636, t637⟩ : S92)]) := ⟨_, rfl⟩
           replace H : (spec_Commit.l1 k2 a0 l1 y638 (wrap64 (x8_2 + 1)) 1 0 (⟨#[]⟩ : ByteArray)) = some r := bQ hy638 H
           have Ny638 := aM hy638
           clear hy638
           have H' := aM H
           clear H
           try go_wp2
           have n_ := aI (aM (Kd.R_drew HO_5.out)) (aI (aM (blk_drew BK615.out)) (aM (below_drew1 HB.out)))
           clear HO_5 BK615 HB
           obtain ⟨HO_5, BK615, HB⟩ := n_
           have p633 : 0 ≤ (x8_2 : Int) := dT
           have q633 : x8_2 < (l1.length : Int) := dT
           obtain ⟨ad633, e633, hx633_0, hx633_1⟩ := at_T65 HR1.out x8_2 p633 q633
           have hw633_1 := hx633_1
           have hw633_0 := hx633_0
           cases e633
           replace hx633_0 := (HB.out.cell (World.block_lt_of_cell? w _ hx633_0)).trans hx633_0
           replace hx633_1 := (HB.out.cell (World.block_lt_of_cell? w _ hx633_1)).trans hx633_1
           replace p633 := eq_true p633
           replace q633 := eq_true q633
           have p634 : 0 ≤ (x8_2 : Int) := dT
           have q634 : x8_2 < (l1.length : Int) := dT
           obtain ⟨ad634, e634, hx634_0, hx634_1⟩ := at_T65 HR1.out x8_2 p634 q634
           have hw634_1 := hx634_1
           have hw634_0 := hx634_0
           obtain rfl : ad633 = ad634 := (by injection e634)
           replace hx634_0 := (HB.out.cell (World.block_lt_of_cell? w _ hx634_0)).trans hx634_0
           replace hx634_1 := (HB.out.cell (World.block_lt_of_cell? w _ hx634_1)).trans hx634_1
           replace p634 := eq_true p634
           replace q634 := eq_true q634
           refine start_ (n := 18) (S := fun w' => w'.cell? (ad633.add ((x8_2).toNat * 2)) = some (.int .i64 ((rd_T65 l1 x8_2).f0)) ∧ w'.cell? ⟨(ad633.add ((x8_2).toNat * 2)).block, (ad633.add ((x8_2).toNat * 2)).off + 1, none⟩ = some (.string ((rd_T65 l1 x8_2).f1)) ∧ w'.cell? (ad633.add ((x8_2).toNat * 2)) = some (.int .i64 ((rd_T65 l1 x8_2).f0)) ∧ w'.cell? ⟨(ad633.add ((x8_2).toNat * 2)).block, (ad633.add ((x8_2).toNat * 2)).off + 1, none⟩ = some (.string ((rd_T65 l1 x8_2).f1))) (ds := []) #[tF, tF, tF, tF, tF, tF, tF, tF, tF, tF, tF, tF, tF, tF, tF, tF, tF, tF] (by kernel_rfl) rfl rfl ⟨((HB.out.cell (World.block_lt_of_cell? w _ hw633_0)).trans hw633_0), ((HB.out.cell (World.block_lt_of_cell? w _ hw633_1)).trans hw633_1), ((HB.out.cell (World.block_lt_of_cell? w _ hw634_0)).trans hw634_0), ((HB.out.cell (World.block_lt_of_cell? w _ hw634_1)).trans hw634_1)⟩ (fun hHeld => ?_); refine with_tabW spec_Commit.tab13 spec_Commit.bits13 (fun HT_ HW_ => ?_)
           generalize wr.drew = w29 at HO_5 BK615 HB hx633_0 hx633_1 hx634_0 hx634_1 hHeld ⊢
           refine pY 0 47 #[tT, tF, tF, tF, tF, tF, tF, tF, tF, tF, tF, tF, tF, tF, tF, tF, tF, tF] ?_
           refine pY 1 48 #[tT, tT, tF, tF, tF, tF, tF, tF, tF, tF, tF, tF, tF, tF, tF, tF, tF, tF] ?_
           refine pY 2 49 #[tT, tT, tT, tF, tF, tF, tF, tF, tF, tF, tF, tF, tF, tF, tF, tF, tF, tF] ?_
           refine pY 3 50 #[tT, tT, tT, tT, tF, tF, tF, tF, tF, tF, tF, tF, tF, tF, tF, tF, tF, tF] ?_
           refine pY 4 51 #[tT, tT, tT, tT, tT, tF, tF, tF, tF, tF, tF, tF, tF, tF, tF, tF, tF, tF] ?_
           refine pY 5 52 #[tT, tT, tT, tT, tT, tT, tF, tF, tF, tF, tF, tF, tF, tF, tF, tF, tF, tF] ?_
           refine pY 6 53 #[tT, tT, tT, tT, tT, tT, tT, tF, tF, tF, tF, tF, tF, tF, tF, tF, tF, tF] ?_
           refine pY 9 56 #[tT, tT, tT, tT, tT, tT, tT, tF, tF, tT, tF, tF, tF, tF, tF, tF, tF, tF] ?_
           refine pY 10 57 #[tT, tT, tT, tT, tT, tT, tT, tF, tF, tT, tT, tF, tF, tF, tF, tF, tF, tF] ?_
           refine pY 11 58 #[tT, tT, tT, tT, tT, tT, tT, tF, tF, tT, tT, tT, tF, tF, tF, tF, tF, tF] ?_
           refine pY 12 59 #[tT, tT, tT, tT, tT, tT, tT, tF, tF, tT, tT, tT, tT, tF, tF, tF, tF, tF] ?_
           refine take_ (i := 7) (N := some 54) (v := ?_) (a' := ?_) #[tT, tT, tT, tT, tT, tT, tT, tT, tF, tT, tT, tT, tT, tF, tF, tF, tF, tF] rfl rfl (take_ofW HT_.out HW_.out (by kernel_rfl)) (fun _ _ _ h => h) (Or.inl ⟨by rfl, ?_⟩) hHeld ?_ ?_
           rotate_left
           ·rintro w' ⟨s0, s1, s2, s3⟩
            go_simp
            with_reducible rfl
           rotate_left
           ·simp only [Act.put, List.setIfInBounds_toArray, List.set_cons_zero, List.set_cons_succ, i64_w, i32_w]
            rfl
           refine pY 8 55 #[tT, tT, tT, tT, tT, tT, tT, tT, tT, tT, tT, tT, tT, tF, tF, tF, tF, tF] ?_
           refine take_ (i := 13) (N := some 60) (v := ?_) (a' := ?_) #[tT, tT, tT, tT, tT, tT, tT, tT, tT, tT, tT, tT, tT, tT, tF, tF, tF, tF] rfl rfl (take_ofW HT_.out HW_.out (by kernel_rfl)) (fun _ _ _ h => h) (Or.inl ⟨by rfl, ?_⟩) hHeld ?_ ?_
           rotate_left
           ·rintro w' ⟨s0, s1, s2, s3⟩
            go_simp
            with_reducible rfl
           rotate_left
           ·simp only [Act.put, List.setIfInBounds_toArray, List.set_cons_zero, List.set_cons_succ, i64_w, i32_w]
            rfl
           refine one_ (i := 14) (N := some 61) #[tT, tT, tT, tT, tT, tT, tT, tT, tT, tT, tT, tT, tT, tT, tT, tF, tF, tF] rfl rfl (one_of HT_.out (by kernel_rfl)) (by decide) (fun K hK => ?_)
           refine goes_ Try.func103 (by kernel_rfl) rfl #[.int .i64 (wrap64 ((wrap64 (a0 + 1)) + ((rd_T65 l1 x8_2).f0))), .string ((rd_T65 l1 x8_2).f1)] (by rfl) rfl rfl (by (try simp only [List.map_toArray, List.map_cons, List.map_nil]); first | done | rfl | (simp only [List.length_drop, List.length_take]; rfl)) ?_
           with_reducible refine (spec_l4Event.calls (wrap64 ((wrap64 (a0 + 1)) + ((rd_T65 l1 x8_2).f0))) ((rd_T65 l1 x8_2).f1) t635 t636 t637 _ A27.out).mono ?_
           rintro e w30 ⟨rfl, hb⟩
           refine ⟨_, rfl, ?_⟩
           have n_ := aI (rB HO_5 hb) (aI (kB BK615 hb) (sB HB hb))
           clear HO_5 BK615 HB
           obtain ⟨HO_5, BK615, HB⟩ := n_
           (try clear hb)
           (try clear hb2)
           (try clear hk)
           (try clear hi)
           refine hK.out _ _ ⟨((HB.out.cell (World.block_lt_of_cell? w _ hw633_0)).trans hw633_0), ((HB.out.cell (World.block_lt_of_cell? w _ hw633_1)).trans hw633_1), ((HB.out.cell (World.block_lt_of_cell? w _ hw634_0)).trans hw634_0), ((HB.out.cell (World.block_lt_of_cell? w _ hw634_1)).trans hw634_1)⟩ (fun hHeld => ?_)
           clear hK K
           refine norm_ (a' := ?_) ?_ ?_
           rotate_left
           ·show Act.put _ (some 61) _ = _
            simp only [Act.put, List.setIfInBounds_toArray, List.set_cons_zero, List.set_cons_succ, i64_w, i32_w]
            rfl
           refine one_ (i := 15) (N := some 62) #[tT, tT, tT, tT, tT, tT, tT, tT, tT, tT, tT, tT, tT, tT, tT, tT, tF, tF] rfl rfl (one_of HT_.out (by kernel_rfl)) (by decide) (fun K hK => ?_)
           refine value_ (w1 := ?_) (v := ?_) (by rfl) rfl ?_ ?_
           rotate_left 2
           ·go_simp
            constructor
            ·rfl
            ·rfl
           refine hK.out _ _ ⟨(World.cell?_alloc_lt _ _ _ (World.block_lt_of_cell? _ _ (((HB.out.cell (World.block_lt_of_cell? w _ hw633_0)).trans hw633_0)))).trans (((HB.out.cell (World.block_lt_of_cell? w _ hw633_0)).trans hw633_0)), (World.cell?_alloc_lt _ _ _ (World.block_lt_of_cell? _ _ (((HB.out.cell (World.block_lt_of_cell? w _ hw633_1)).trans hw633_1)))).trans (((HB.out.cell (World.block_lt_of_cell? w _ hw633_1)).trans hw633_1)), (World.cell?_alloc_lt _ _ _ (World.block_lt_of_cell? _ _ (((HB.out.cell (World.block_lt_of_cell? w _ hw634_0)).trans hw634_0)))).trans (((HB.out.cell (World.block_lt_of_cell? w _ hw634_0)).trans hw634_0)), (World.cell?_alloc_lt _ _ _ (World.block_lt_of_cell? _ _ (((HB.out.cell (World.block_lt_of_cell? w _ hw634_1)).trans hw634_1)))).trans (((HB.out.cell (World.block_lt_of_cell? w _ hw634_1)).trans hw634_1))⟩ (fun hHeld => ?_)
           clear hK K
           refine norm_ (a' := ?_) ?_ ?_
           rotate_left
           ·show Act.put _ (some 62) _ = _
            simp only [Act.put, List.setIfInBounds_toArray, List.set_cons_zero, List.set_cons_succ, i64_w, i32_w]
            rfl
           refine one_ (i := 16) (N := some 63) #[tT, tT, tT, tT, tT, tT, tT, tT, tT, tT, tT, tT, tT, tT, tT, tT, tT, tF] rfl rfl (one_of HT_.out (by kernel_rfl)) (by decide) (fun K hK => ?_)
           refine Kd.R_append_step k92 (w0 := w) w.heap.size (by rfl) (.tmp 47) (.tmp 62) 54 92 (.agg #[(.int .i64 0), (.int .i64 0), (.string ⟨#[]⟩)]) 32 rfl Try.underlying54 info92 rfl (by decide) (by omega) u5 x5_2 (⟨t635, t636, t637⟩ : S92) [.int .i64 t635, .int .i64 t636, .string t637] (fun k_ => k_ ≠ gb615) (fun _ => False) rfl rfl ?aP (fun _ hk => hk.elim) ?aF ?aO ?aB ?aS ?aL ?_
           (case aP => exact k92_mkM _ _ _ (⟨t635, t636, t637⟩ : S92))
           (case aB => exact bB)
           (case aF => exact (fun k_ hk => Kd.freshB (g := gb615) (o := .cells #[.int .i64 1, .int .i64 0, .string (⟨#[]⟩ : ByteArray)] 92 (0, 0)) (kP BK615) k_ hk))
           (case aO => exact (rP HO_5.out))
           (case aS => exact (zB HB))
           (case aL => have := LMc28.out; omega)
           intro v639 w31 ho hb hg hat
           rw [← Ny638.out] at ho
           have n_ := aI (aM (blk_grown (g := gb615) (o := .cells #[.int .i64 1, .int .i64 0, .string (⟨#[]⟩ : ByteArray)] 92 (0, 0)) (kP BK615) hg (Kd.R_away HO_5.out (fun _ hk => hk)))) (aI (aM (hb)) (aM (ho)))
           clear BK615 HB HO_5
           obtain ⟨BK615, HB, HO640⟩ := n_
           clear ho hb hg hat
           refine hK.out _ _ ⟨((HB.out.cell (World.block_lt_of_cell? w _ hw633_0)).trans hw633_0), ((HB.out.cell (World.block_lt_of_cell? w _ hw633_1)).trans hw633_1), ((HB.out.cell (World.block_lt_of_cell? w _ hw634_0)).trans hw634_0), ((HB.out.cell (World.block_lt_of_cell? w _ hw634_1)).trans hw634_1)⟩ (fun hHeld => ?_)
           clear hK K
           refine norm_ (a' := ?_) ?_ ?_
           rotate_left
           ·show Act.put _ (some 63) _ = _
            simp only [Act.put, List.setIfInBounds_toArray, List.set_cons_zero, List.set_cons_succ, i64_w, i32_w]
            rfl
           refine pY 17 5 #[tT, tT, tT, tT, tT, tT, tT, tT, tT, tT, tT, tT, tT, tT, tT, tT, tT, tT] ?_
           refine done_ (done_of HT_.out (by kernel_rfl)) ?_
           try go_wp2
           go_roundg k2
           case measure => have := HK1.out; have := HK2.out; omega
           case rel => exact ⟨(y638), (wrap64 (x8_2 + 1)), (by first | rfl | (simp; done) | (simp [*]; done) | (simp; exact (by intro l_; cases l_ <;> rfl : ∀ l_ : List UInt8, l_.isEmpty = !(l_ != [])) _)), H', ⟨by have := HK1.out; have := HK2.out; omega⟩, ⟨rP HO640.out⟩, ⟨kP BK615⟩, ⟨bB⟩⟩
          ·rw [if_neg c28] at H
           exact absurd H (by simp)
         ·rw [if_neg c26] at H
          exact absurd H (by simp)
        ·rw [if_neg c25] at H
         have c25b0 : decide (x8_2 < (l1.length : Int)) = false := decide_eq_false c25
         clear c25
         replace H := Option.bind_eq_some_iff.mp H
         obtain ⟨⟨t641, t642, t643⟩, A320, H⟩ := H
         try dsimp only at H
         have A32 := aM A320
         clear A320
         obtain ⟨y644, hy644⟩ : ∃ y_ : List (S92), y_ = (([(⟨1, 0, (⟨#[]⟩ : ByteArray)⟩ : S92), (⟨t641, t642, t643⟩ : S92), (⟨1, 0, (⟨#[]⟩ : ByteArray)⟩ : S92)] : List (S92))) := ⟨_, rfl⟩
         replace H : (if x5_2.length + y644.length < 4398046511104 then (some (x5_2 ++ y644)) else (none)) = some r := bQ hy644 H
         have Ny644 := aM hy644
         clear hy644
         by_cases c33 : x5_2.length + y644.length < 4398046511104
         ·rw [if_pos c33] at H
          have LMc33 := aM c33
          clear c33
          obtain ⟨y647, hy647⟩ : ∃ y_ : List (S92), y_ = (x5_2 ++ y644) := ⟨_, rfl⟩
          replace H : (some y647) = some r := bQ hy647 H
          have Ny647 := aM hy647
          clear hy647
          obtain rfl := Option.some.inj H
          try go_wp2
          have n_ := aI (aM (Kd.R_drew HO_5.out)) (aI (aM (blk_drew BK615.out)) (aM (below_drew1 HB.out)))
          clear HO_5 BK615 HB
          obtain ⟨HO_5, BK615, HB⟩ := n_
          refine start_ (n := 7) (S := fun w' => w'.cell? ⟨gb615, 0, none⟩ = some (.int .i64 1) ∧ w'.cell? ⟨gb615, 1, none⟩ = some (.int .i64 0) ∧ w'.cell? ⟨gb615, 2, none⟩ = some (.string (⟨#[]⟩ : ByteArray))) (ds := []) #[tF, tF, tF, tF, tF, tF, tF] (by kernel_rfl) rfl rfl ⟨(blk_cell BK615.out 0).trans rfl, (blk_cell BK615.out 1).trans rfl, (blk_cell BK615.out 2).trans rfl⟩ (fun hHeld => ?_)
          generalize wr.drew = w34 at HO_5 BK615 HB hHeld ⊢
          refine pure_ (i := 0) (N := some 64) (v := ?_) (a' := ?_) #[tT, tF, tF, tF, tF, tF, tF] rfl rfl (by kernel_rfl) (fun _ _ _ h => h) (Or.inl ⟨by rfl, ?_⟩) ?_ ?_
          rotate_left
          ·intro w'
           go_simp
           with_reducible rfl
          rotate_left
          ·simp only [Act.put, List.setIfInBounds_toArray, List.set_cons_zero, List.set_cons_succ, i64_w, i32_w]
           rfl
          refine take_ (i := 1) (N := some 65) (v := ?_) (a' := ?_) #[tT, tT, tF, tF, tF, tF, tF] rfl rfl (by kernel_rfl) (fun _ _ _ h => h) (Or.inl ⟨by rfl, ?_⟩) hHeld ?_ ?_
          rotate_left
          ·rintro w' ⟨s0, s1, s2⟩
           go_simp
           with_reducible rfl
          rotate_left
          ·simp only [Act.put, List.setIfInBounds_toArray, List.set_cons_zero, List.set_cons_succ, i64_w, i32_w]
           rfl
          refine take_ (i := 3) (N := some 67) (v := ?_) (a' := ?_) #[tT, tT, tF, tT, tF, tF, tF] rfl rfl (by kernel_rfl) (fun _ _ _ h => h) (Or.inl ⟨by rfl, ?_⟩) hHeld ?_ ?_
          rotate_left
          ·rintro w' ⟨s0, s1, s2⟩
           go_simp
           with_reducible rfl
          rotate_left
          ·simp only [Act.put, List.setIfInBounds_toArray, List.set_cons_zero, List.set_cons_succ, i64_w, i32_w]
           rfl
          refine one_ (i := 2) (N := some 66) #[tT, tT, tT, tT, tF, tF, tF] rfl rfl (by kernel_rfl) (by decide) (fun K hK => ?_)
          refine goes_ Try.func103 (by kernel_rfl) rfl #[.int .i64 0, .string (⟨#[]⟩ : ByteArray)] (by rfl) rfl rfl (by (try simp only [List.map_toArray, List.map_cons, List.map_nil]); first | done | rfl | (simp only [List.length_drop, List.length_take]; rfl)) ?_
          with_reducible refine (spec_l4Event.calls 0 (⟨#[]⟩ : ByteArray) t641 t642 t643 _ A32.out).mono ?_
          rintro e w35 ⟨rfl, hb⟩
          refine ⟨_, rfl, ?_⟩
          have n_ := aI (rB HO_5 hb) (aI (kB BK615 hb) (sB HB hb))
          clear HO_5 BK615 HB
          obtain ⟨HO_5, BK615, HB⟩ := n_
          (try clear hb)
          (try clear hb2)
          (try clear hk)
          (try clear hi)
          refine hK.out _ _ ⟨(blk_cell BK615.out 0).trans rfl, (blk_cell BK615.out 1).trans rfl, (blk_cell BK615.out 2).trans rfl⟩ (fun hHeld => ?_)
          clear hK K
          refine norm_ (a' := ?_) ?_ ?_
          rotate_left
          ·show Act.put _ (some 66) _ = _
           simp only [Act.put, List.setIfInBounds_toArray, List.set_cons_zero, List.set_cons_succ, i64_w, i32_w]
           rfl
          refine one_ (i := 4) (N := some 68) #[tT, tT, tT, tT, tT, tF, tF] rfl rfl (by kernel_rfl) (by decide) (fun K hK => ?_)
          refine Kd.R_lit_step k92 _ 92 ?hg (N := 68) ?hd (xs := ([(⟨1, 0, (⟨#[]⟩ : ByteArray)⟩ : S92), (⟨t641, t642, t643⟩ : S92), (⟨1, 0, (⟨#[]⟩ : ByteArray)⟩ : S92)] : List (S92))) (inner := [.int .i64 1, .int .i64 0, .string (⟨#[]⟩ : ByteArray), .int .i64 t641, .int .i64 t642, .string t643, .int .i64 1, .int .i64 0, .string (⟨#[]⟩ : ByteArray)]) (ok := fun _ => True) (okp := fun _ => True) ?hr ?hp (fun _ hk => hk) trivial (Below.refl _ _) (Nat.le_refl _) (by simp) ?_; (case hd => rfl); (case hg => rfl); (case hr => first | (go_simp; done) | (go_simp; rfl)); (case hp => exact (Reps.c3 (show Kd.M k92 _ _ _ (⟨1, 0, (⟨#[]⟩ : ByteArray)⟩ : S92) [.int .i64 1, .int .i64 0, .string (⟨#[]⟩ : ByteArray)] from (k92_mkM _ _ _ (⟨1, 0, (⟨#[]⟩ : ByteArray)⟩ : S92) )) (Reps.c3 (show Kd.M k92 _ _ _ (⟨t641, t642, t643⟩ : S92) [.int .i64 t641, .int .i64 t642, .string t643] from (k92_mkM _ _ _ (⟨t641, t642, t643⟩ : S92) )) (Reps.c3 (show Kd.M k92 _ _ _ (⟨1, 0, (⟨#[]⟩ : ByteArray)⟩ : S92) [.int .i64 1, .int .i64 0, .string (⟨#[]⟩ : ByteArray)] from (k92_mkM _ _ _ (⟨1, 0, (⟨#[]⟩ : ByteArray)⟩ : S92) )) (Reps.none _ _)))))
          intro v645 w36 ho37 hb hg_ hnew_
          clear hg_ hnew_
          (first | rw [← Ny644.out] at ho37 | (simp only [Int.reduceToNat] at ho37; rw [← Ny644.out] at ho37))
          have n_ := aI (eR HO_5 ho37 hb) (aI (aM (Kd.R_lower (Kd.R_newB (Kd.R_new' ho37 (rL HO_5)) (g := gb615) (o := .cells #[.int .i64 1, .int .i64 0, .string (⟨#[]⟩ : ByteArray)] 92 (0, 0)) (kP BK615)) (zB HB))) (aI (kB BK615 hb) (sB HB hb)))
          clear HO_5 BK615 HB
          obtain ⟨HO_5, HO646, BK615, HB⟩ := n_
          clear hb ho37
          obtain ⟨Ao39, co39, eo39⟩ := Kd.R_slice HO646.out
          (first | subst eo39 | (injection eo39 with f1_ f2_ f3_; have f4_ := f1_.symm; have f5_ := f3_.symm; clear f1_ f2_ f3_; subst f4_; subst f5_))
          refine hK.out _ _ ⟨(blk_cell BK615.out 0).trans rfl, (blk_cell BK615.out 1).trans rfl, (blk_cell BK615.out 2).trans rfl⟩ (fun hHeld => ?_)
          clear hK K
          refine norm_ (a' := ?_) ?_ ?_
          rotate_left
          ·show Act.put _ (some 68) _ = _
           simp only [Act.put, List.setIfInBounds_toArray, List.set_cons_zero, List.set_cons_succ, i64_w, i32_w]
           rfl
          refine one_ (i := 5) (N := some 69) #[tT, tT, tT, tT, tT, tT, tF] rfl rfl (by kernel_rfl) (by decide) (fun K hK => ?_)
          refine Kd.R_append_rows_step k92 (w0 := w) w.heap.size (by rfl) (.tmp 64) (.tmp 68) 54 92 (.agg #[(.int .i64 0), (.int .i64 0), (.string ⟨#[]⟩)]) 32 rfl Try.underlying54 info92 rfl (by decide) (by omega) u5 x5_2 y644 _ _ _ (fun k_ => some k_ ≠ (.slice Ao39 y644.length co39 : Value).ownBlock ∧ k_ ≠ gb615) (fun _ => False) rfl rfl ?aO ?aR (fun _ _ h => h) (fun _ h => h.elim) ?aF ?aB ?aS ?aL ?_
          (case aR => exact cR HO646)
          (case aB => exact bB)
          (case aF => exact (fun k_ hk => ⟨Kd.fresh' (rL HO646) k_ hk, Kd.freshB (g := gb615) (o := .cells #[.int .i64 1, .int .i64 0, .string (⟨#[]⟩ : ByteArray)] 92 (0, 0)) (kP BK615) k_ hk⟩))
          (case aO => exact (rP (Kd.R_mono HO_5.out (fun _ hk => ⟨hk.2, hk.1⟩))))
          (case aS => exact (zB HB))
          (case aL => have := LMc33.out; omega)
          intro v648 w38 ho hb hg hat
          rw [← Ny647.out] at ho
          have n_ := aI (aM (blk_grown (g := gb615) (o := .cells #[.int .i64 1, .int .i64 0, .string (⟨#[]⟩ : ByteArray)] 92 (0, 0)) (kP BK615) hg (Kd.R_away HO_5.out (fun _ hk => hk.1)))) (aI (aM (Kd.R_after (ok := (fun k_ => k_ ≠ gb615)) (rP (Kd.R_mono HO646.out (fun _ hk => ⟨hk.2, hk.1.2⟩))) hg hat)) (aI (aM (hb)) (aM (ho))))
          clear BK615 HO646 HB HO_5
          obtain ⟨BK615, HO646, HB, HO649⟩ := n_
          clear ho hb hg hat
          refine hK.out _ _ ⟨(blk_cell BK615.out 0).trans rfl, (blk_cell BK615.out 1).trans rfl, (blk_cell BK615.out 2).trans rfl⟩ (fun hHeld => ?_)
          clear hK K
          refine norm_ (a' := ?_) ?_ ?_
          rotate_left
          ·show Act.put _ (some 69) _ = _
           simp only [Act.put, List.setIfInBounds_toArray, List.set_cons_zero, List.set_cons_succ, i64_w, i32_w]
           rfl
          refine pure_ (i := 6) (N := some 4) (v := ?_) (a' := ?_) #[tT, tT, tT, tT, tT, tT, tT] rfl rfl (by kernel_rfl) (fun _ _ _ h => h) (Or.inl ⟨by rfl, ?_⟩) ?_ ?_
          rotate_left
          ·intro w'
           go_simp
           with_reducible rfl
          rotate_left
          ·simp only [Act.put, List.setIfInBounds_toArray, List.set_cons_zero, List.set_cons_succ, i64_w, i32_w]
           rfl
          refine done_ (by kernel_rfl) ?_
          try go_wp2
          go_ret
          exact ⟨_, eW, by (with_reducible repeat (first | apply Kd.R_alloc | apply Kd.R_drewN | apply Kd.R_drew)); exact Kd.R_mono HO649.out (fun _ hk => trivial), bB⟩
         ·rw [if_neg c33] at H
          exact absurd H (by simp)
     ·rw [if_neg c17] at H
      exact absurd H (by simp)
 replace c4 := Bool.eq_false_iff.mpr c4
 subst c4
 rw [if_neg (show ¬ (false = true) by decide)] at H
 obtain rfl := Option.some.inj H
 go_enter Try.func54, Try.ntmps54
 go_wp2_with (first | ((with_reducible refine gate_dst (N := 9) rfl ?_); refine Kd.R_lit k92 _ 92 ?hg (N := 9) ?hd (xs := ([] : List (S92))) (inner := []) (ok := fun _ => True) (okp := fun _ => True) ?hr ?hp (fun _ hk => hk) trivial (Below.refl _ _) (Nat.le_refl _) (by simp) ?_; (case hd => rfl); (case hg => rfl); (case hr => first | (go_simp; done) | (go_simp; rfl)); (case hp => exact (Reps.none _ _)); intro v612 w40 ho41 hb hg_ hnew_; clear hg_ hnew_; (first | rw [← Ny611.out] at ho41 | (simp only [Int.reduceToNat] at ho41; rw [← Ny611.out] at ho41)); have n_ := aI (lR HB ho41) (sB HB hb); clear HB; obtain ⟨HO613, HB⟩ := n_; (try clear hb ho41)) | ((with_reducible refine gate_callee (f := 102) rfl ?_); refine gL (some 12) Try.func102 #[.int .i64 a0, .slice A1 l1.length c1] ?_; (with_reducible refine (spec_TxOk.calls k a0 _ _ l1 false _ ?side1 ?side2 A3.out).mono ?_); (case side1 => exact cS HR1 HB); (case side2 => exact HC1.out); rintro e w' ⟨rfl, ⟨nd, rfl⟩⟩; refine ⟨_, rfl, ?_⟩))
 go_ret
 exact ⟨_, eW, by (with_reducible repeat (first | apply Kd.R_alloc | apply Kd.R_drewN | apply Kd.R_drew)); exact HO613.out, bB⟩

/-! ### spec_l1Once: function 120 -/
def spec_l1Once.f (s0_0 : List Int) (s0_1 : Int) (s0_2 : Int) (a1 : Int) : Option (Bool × Int × Int) := (spec_l1Below.f s0_0 s0_1 s0_2 a1).bind fun bt650 => (some ((bt650.1 == 0), bt650.2.1, bt650.2.2))
set_option maxHeartbeats 8000000 in
set_option maxRecDepth 100000 in
theorem spec_l1Once.calls (g : Nat) (s0_0 : List Int) (s0_1 : Int) (s0_2 : Int) (a1 : Int) (r1 : Bool) (r2 : Int) (r3 : Int) (w0 w : World) (hI : IsS123 w0 w g s0_0 s0_1 s0_2) (hB : Below w0.heap.size w0 w) (h : spec_l1Once.f s0_0 s0_1 s0_2 a1 = some (r1, r2, r3)) :
  Calls Try.prog 120 #[.pointer (some ⟨g, 0, none⟩), .int .i64 a1] w fun e w' => e = .returned (.bool r1) ∧ IsS123 w0 w' g s0_0 r2 r3 ∧ Below w0.heap.size w0 w' ∧ KeepBut w w' g none := by
 have HI0 := aM hI
 have GEg_ := aM (IsS123.ge hI)
 have HK := aM (KeepBut.refl w g none)
 have HL := aM hB.size
 clear hI
 have HW0 := aM hB.size
 have HB := aM hB
 clear hB
 unfold spec_l1Once.f at h
 have H := h
 clear h
 replace H := Option.bind_eq_some_iff.mp H
 obtain ⟨⟨t650, t651, t652⟩, A30, H⟩ := H
 try dsimp only at H
 have A3 := aM A30
 clear A30
 simp only [Option.some.injEq, Prod.mk.injEq] at H
 obtain ⟨rfl, rfl, rfl⟩ := H
 go_enter Try.func120, Try.ntmps120
 go_wp2_with (first | ((with_reducible refine gate_callee (f := 95) rfl ?_); refine gL (some 7) Try.func95 #[.pointer (some ⟨g, 0, none⟩), .int .i64 a1] ?_; (with_reducible refine (spec_l1Below.calls g s0_0 s0_1 s0_2 a1 t650 t651 t652 w0 _ ?side1 ?side2 A3.out).mono ?_); (case side1 => exact IsS123.iI HI0); (case side2 => exact bB); rintro e w4 ⟨rfl, hi, hb, hk⟩; refine ⟨_, rfl, ?_⟩; have n_ := aI (aM (KeepBut.trans (bK HK) hk (.inl rfl))) (aI (aM (hb)) (aM (hi))); clear HK HB HI0; obtain ⟨HK, HB, HI0⟩ := n_; (try clear hb hk hi)))
 go_ret
 exact ⟨eW, IsS123.iI HI0, bB, bK HK⟩

/-! ### spec_l4Tx: function 125 -/
def spec_l4Tx.l0 : Nat → Int → List (S65) → Int → List Int → Int → Int → Option ((List (S65)) × Int × Int)
 | 0, _, _, _, _, _, _ => none
 | k + 1, x1, x5, x6, x1000, x1001, x1002 => if x6 < x1 then ((spec_l1Once.f x1000 x1001 x1002 3).bind fun bt656 => (if bt656.1 = true then ((spec_l3Data.f k x1000 bt656.2.1 bt656.2.2).bind fun bt659 => (if x5.length < 5864062014805 then (spec_l4Tx.l0 k x1 (x5 ++ [(⟨x6, bt659.1⟩ : S65)]) (wrap64 (x6 + 1)) x1000 bt659.2.1 bt659.2.2) else (none))) else (if x6 = (wrap64 (x1 - 1)) then (if (x5.length : Int) = 0 then ((spec_l3Data.f k x1000 bt656.2.1 bt656.2.2).bind fun bt665 => (if x5.length < 5864062014805 then (spec_l4Tx.l0 k x1 (x5 ++ [(⟨x6, bt665.1⟩ : S65)]) (wrap64 (x6 + 1)) x1000 bt665.2.1 bt665.2.2) else (none))) else (spec_l4Tx.l0 k x1 x5 (wrap64 (x6 + 1)) x1000 bt656.2.1 bt656.2.2)) else (spec_l4Tx.l0 k x1 x5 (wrap64 (x6 + 1)) x1000 bt656.2.1 bt656.2.2)))) else (some (x5, x1001, x1002))
def spec_l4Tx.f (k : Nat) (s0_0 : List Int) (s0_1 : Int) (s0_2 : Int) (a1 : Int) : Option ((List (S65)) × Int × Int) := spec_l4Tx.l0 k a1 (([] : List (S65))) 0 s0_0 s0_1 s0_2
theorem spec_l4Tx.mono_l : ∀ k, (∀ y0 y1 y2 y3 y4 y5, LeO (spec_l4Tx.l0 k y0 y1 y2 y3 y4 y5) (spec_l4Tx.l0 (k + 1) y0 y1 y2 y3 y4 y5))
 | 0 => fun _ _ _ _ _ _ r h => by simp [spec_l4Tx.l0] at h
 | k + 1 => by
  have ih0 := spec_l4Tx.mono_l k
  ·intro y0 y1 y2 y3 y4 y5
   unfold spec_l4Tx.l0
   have m0_ := @spec_l3Data.mono
   exact mM
theorem spec_l4Tx.mono : ∀ a0 a1 a2 a3 k, LeO (spec_l4Tx.f k a0 a1 a2 a3) (spec_l4Tx.f (k + 1) a0 a1 a2 a3) := by
 intro a0 a1 a2 a3 k
 have ih0 := spec_l4Tx.mono_l k
 unfold spec_l4Tx.f
 have m0_ := @spec_l3Data.mono
 exact mM
set_option maxHeartbeats 8000000 in
set_option maxRecDepth 100000 in
theorem spec_l4Tx.calls (k : Nat) (g : Nat) (s0_0 : List Int) (s0_1 : Int) (s0_2 : Int) (a1 : Int) (r1 : List (S65)) (r2 : Int) (r3 : Int) (w0 w : World) (hI : IsS123 w0 w g s0_0 s0_1 s0_2) (hB : Below w0.heap.size w0 w) (h : spec_l4Tx.f k s0_0 s0_1 s0_2 a1 = some (r1, r2, r3)) :
  Calls Try.prog 125 #[.pointer (some ⟨g, 0, none⟩), .int .i64 a1] w fun e w' => ∃ v0_ : Value, e = .returned (v0_) ∧ Kd.R k65 65 w' w.heap.size (fun _ => True) v0_ r1 ∧ IsS123 w0 w' g s0_0 r2 r3 ∧ Below w0.heap.size w0 w' ∧ KeepBut w w' g none := by
 have hu65 := Try.underlying65
 have HI0 := aM hI
 have GEg_ := aM (IsS123.ge hI)
 have HK := aM (KeepBut.refl w g none)
 have HL := aM hB.size
 clear hI
 have HW0 := aM hB.size
 have HB := aM hB
 clear hB
 unfold spec_l4Tx.f at h
 have H := h
 clear h
 obtain ⟨y653, hy653⟩ : ∃ y_ : List (S65), y_ = (([] : List (S65))) := ⟨_, rfl⟩
 replace H : (spec_l4Tx.l0 k a1 y653 0 s0_0 s0_1 s0_2) = some (r1, r2, r3) := bQ hy653 H
 have Ny653 := aM hy653
 clear hy653
 have H' := aM H
 clear H
 go_enter Try.func125, Try.ntmps125
 go_wp2_with (first | ((with_reducible refine gate_dst (N := 7) rfl ?_); (try (refine gate_guard (by rfl) ?_; dsimp only)); refine Kd.R_lit k65 _ 65 ?hg (N := 7) ?hd (xs := ([] : List (S65))) (inner := []) (ok := fun _ => True) (okp := fun _ => True) ?hr ?hp (fun _ hk => hk) trivial (Below.refl _ _) (Nat.le_refl _) (by simp) ?_; (case hd => rfl); (case hg => rfl); (case hr => first | (go_simp; done) | (go_simp; rfl)); (case hp => exact (Reps.none _ _)); intro v654 w3 ho4 hb hg_ hnew_; clear hg_ hnew_; (first | rw [← Ny653.out] at ho4 | (simp only [Int.reduceToNat] at ho4; rw [← Ny653.out] at ho4)); have n_ := aI (aM (Kd.R_lower ho4 (keep_size (w := w) (g := g) (row := none) (bK HK)))) (aI (aM (IsS123.below (IsS123.iI HI0) hb)) (aI (aM (KeepBut.trans (bK HK) (KeepBut.of_below hb g none) (.inl rfl))) (sB HB hb))); clear HI0 HK HB; obtain ⟨HO655, HI0, HK, HB⟩ := n_; (try clear hb ho4)))
 go_loopg [5, 6] k (fun kq v5 v6 w' => ∃ (x5_1 : List (S65)) (x6_1 : Int) (x1001_1 : Int) (x1002_1 : Int), v6 = .int .i64 x6_1 ∧ Aside0 (spec_l4Tx.l0 kq a1 x5_1 x6_1 s0_0 x1001_1 x1002_1 = some (r1, r2, r3)) ∧ Aside0 (kq ≤ k) ∧ Aside0 (Kd.R k65 65 w' w.heap.size (fun _ => True) v5 x5_1) ∧ Aside0 (IsS123 w0 w' g s0_0 x1001_1 x1002_1) ∧ Aside0 (KeepBut w w' g none) ∧ Aside0 (Below w0.heap.size w0 w'))
 case atStart => exact ⟨(y653), (0), (s0_1), (s0_2), (by first | rfl | (simp; done) | (simp [*]; done) | (simp; exact (by intro l_; cases l_ <;> rfl : ∀ l_ : List UInt8, l_.isEmpty = !(l_ != [])) _)), H', ⟨Nat.le_refl _⟩, ⟨rP HO655.out⟩, ⟨IsS123.iI HI0⟩, ⟨bK HK⟩, ⟨bB⟩⟩
 case round =>
  clear H'
  try clear c1
  try clear p2
  obtain ⟨x5_1, x6_1, x1001_1, x1002_1, rfl, HA, HK1, HO_5, HI0, HK, HB⟩ := hrel
  cases gk with
  | zero => exact absurd HA.out (by simp [spec_l4Tx.l0])
  | succ k1 =>
   have H := HA.out
   clear HA
   simp only [spec_l4Tx.l0] at H
   by_cases c5 : x6_1 < a1
   ·rw [if_pos c5] at H
    have c5b0 : decide (x6_1 < a1) = true := decide_eq_true c5
    clear c5
    replace H := Option.bind_eq_some_iff.mp H
    obtain ⟨⟨t656, t657, t658⟩, A60, H⟩ := H
    try dsimp only at H
    have A6 := aM A60
    clear A60
    by_cases c7 : t656 = true
    ·subst c7
     rw [if_pos rfl] at H
     replace H := Option.bind_eq_some_iff.mp H
     obtain ⟨⟨t659, t660, t661⟩, A80, H⟩ := H
     try dsimp only at H
     have A8 := aM A80
     clear A80
     by_cases c9 : x5_1.length < 5864062014805
     ·rw [if_pos c9] at H
      have LMc9 := aM c9
      clear c9
      obtain ⟨y662, hy662⟩ : ∃ y_ : List (S65), y_ = (x5_1 ++ [(⟨x6_1, t659⟩ : S65)]) := ⟨_, rfl⟩
      replace H : (spec_l4Tx.l0 k1 a1 y662 (wrap64 (x6_1 + 1)) s0_0 t660 t661) = some (r1, r2, r3) := bQ hy662 H
      have Ny662 := aM hy662
      clear hy662
      have H' := aM H
      clear H
      go_wp2_with (first | ((with_reducible refine gate_callee (f := 120) rfl ?_); refine gL (some 14) Try.func120 #[.pointer (some ⟨g, 0, none⟩), .int .i64 3] ?_; (with_reducible refine (spec_l1Once.calls g s0_0 x1001_1 x1002_1 3 true t657 t658 w0 _ ?side1 ?side2 A6.out).mono ?_); (case side1 => exact IsS123.iI HI0); (case side2 => exact bB); rintro e w10 ⟨rfl, hi, hb, hk⟩; refine ⟨_, rfl, ?_⟩; have n_ := aI (aM (Kd.R_mono (Kd.R_keep (IsS123.apart (show IsS123 w0 _ g s0_0 x1001_1 x1002_1 from IsS123.iI HI0) (rP HO_5.out) (by decide)) hk (fun _ h => h.2)) (fun _ h => h.1))) (aI (aM (KeepBut.trans (bK HK) hk (.inl rfl))) (aI (aM (hb)) (aM (hi)))); clear HO_5 HK HB HI0; obtain ⟨HO_5, HK, HB, HI0⟩ := n_; (try clear hb hk hi)) | ((with_reducible refine gate_callee (f := 96) rfl ?_); refine gL (some 29) Try.func96 #[.pointer (some ⟨g, 0, none⟩)] ?_; (with_reducible refine (spec_l3Data.calls k1 g s0_0 t657 t658 t659 t660 t661 w0 _ ?side1 ?side2 A8.out).mono ?_); (case side1 => exact IsS123.iI HI0); (case side2 => exact bB); rintro e w11 ⟨rfl, hi, hb, hk⟩; refine ⟨_, rfl, ?_⟩; have n_ := aI (aM (Kd.R_mono (Kd.R_keep (IsS123.apart (show IsS123 w0 _ g s0_0 t657 t658 from IsS123.iI HI0) (rP HO_5.out) (by decide)) hk (fun _ h => h.2)) (fun _ h => h.1))) (aI (aM (KeepBut.trans (bK HK) hk (.inl rfl))) (aI (aM (hb)) (aM (hi)))); clear HO_5 HK HB HI0; obtain ⟨HO_5, HK, HB, HI0⟩ := n_; (try clear hb hk hi)) | ((with_reducible refine gate_builtin (b := .append) (xs := #[.tmp 26, .tmp 31]) rfl ?_); (try (refine gate_guard (by rfl) ?_; dsimp only)); at_builtin; refine Kd.R_append k65 w.heap.size rfl (.tmp 26) (.tmp 31) 28 65 (.agg #[(.int .i64 0), (.string ⟨#[]⟩)]) 24 rfl Try.underlying28 info65 rfl (by decide) (by omega) u5 x5_1 (⟨x6_1, t659⟩ : S65) [.int .i64 x6_1, .string t659] (fun _ => True) (fun _ => False) rfl rfl ?aP (fun _ hk => hk.elim) ?aF ?aO (Below.refl _ _) ?aS ?aL ?_; (case aP => exact k65_mkM _ _ _ (⟨x6_1, t659⟩ : S65)); (case aF => exact (fun _ _ => trivial)); (case aO => exact (rP HO_5.out)); (case aS => exact (keep_size (w := w) (g := g) (row := none) (bK HK))); (case aL => have := LMc9.out; omega); intro v663 w12 ho hb hg hat; rw [← Ny662.out] at ho; have n_ := aI (aM (IsS123.grown (IsS123.iI HI0) hg (IsS123.own_ne HI0.out HO_5.out (by decide)))) (aI (aM (below_weaken bB HL.out hb)) (aI (aM (KeepBut.trans (bK HK) (KeepBut.of_grown hg g) (Kd.R_base2 HO_5.out))) (aM (ho)))); clear HI0 HB HK HO_5; obtain ⟨HI0, HB, HK, HO664⟩ := n_; (try clear ho hb hg hat)))
      go_roundg k1
      case measure => have := HK1.out; omega
      case rel => exact ⟨(y662), (wrap64 (x6_1 + 1)), (t660), (t661), (by first | rfl | (simp; done) | (simp [*]; done) | (simp; exact (by intro l_; cases l_ <;> rfl : ∀ l_ : List UInt8, l_.isEmpty = !(l_ != [])) _)), H', ⟨by have := HK1.out; omega⟩, ⟨rP HO664.out⟩, ⟨IsS123.iI HI0⟩, ⟨bK HK⟩, ⟨bB⟩⟩
     ·rw [if_neg c9] at H
      exact absurd H (by simp)
    ·replace c7 := Bool.eq_false_iff.mpr c7
     subst c7
     rw [if_neg (show ¬ (false = true) by decide)] at H
     by_cases c13 : x6_1 = (wrap64 (a1 - 1))
     ·rw [if_pos c13] at H
      have c13b0 : (x6_1 == (wrap64 (a1 - 1))) = true := beq_iff_eq.mpr c13
      have c13b1 : (x6_1 != (wrap64 (a1 - 1))) = false := bne_eq_false_iff_eq.mpr c13
      clear c13
      by_cases c14 : (x5_1.length : Int) = 0
      ·rw [if_pos c14] at H
       have c14b0 : ((x5_1.length : Int) == 0) = true := beq_iff_eq.mpr c14
       have c14b1 : ((x5_1.length : Int) != 0) = false := bne_eq_false_iff_eq.mpr c14
       clear c14
       replace H := Option.bind_eq_some_iff.mp H
       obtain ⟨⟨t665, t666, t667⟩, A150, H⟩ := H
       try dsimp only at H
       have A15 := aM A150
       clear A150
       by_cases c16 : x5_1.length < 5864062014805
       ·rw [if_pos c16] at H
        have LMc16 := aM c16
        clear c16
        obtain ⟨y668, hy668⟩ : ∃ y_ : List (S65), y_ = (x5_1 ++ [(⟨x6_1, t665⟩ : S65)]) := ⟨_, rfl⟩
        replace H : (spec_l4Tx.l0 k1 a1 y668 (wrap64 (x6_1 + 1)) s0_0 t666 t667) = some (r1, r2, r3) := bQ hy668 H
        have Ny668 := aM hy668
        clear hy668
        have H' := aM H
        clear H
        go_wp2_with (first | ((with_reducible refine gate_callee (f := 120) rfl ?_); refine gL (some 14) Try.func120 #[.pointer (some ⟨g, 0, none⟩), .int .i64 3] ?_; (with_reducible refine (spec_l1Once.calls g s0_0 x1001_1 x1002_1 3 false t657 t658 w0 _ ?side1 ?side2 A6.out).mono ?_); (case side1 => exact IsS123.iI HI0); (case side2 => exact bB); rintro e w17 ⟨rfl, hi, hb, hk⟩; refine ⟨_, rfl, ?_⟩; have n_ := aI (aM (Kd.R_mono (Kd.R_keep (IsS123.apart (show IsS123 w0 _ g s0_0 x1001_1 x1002_1 from IsS123.iI HI0) (rP HO_5.out) (by decide)) hk (fun _ h => h.2)) (fun _ h => h.1))) (aI (aM (KeepBut.trans (bK HK) hk (.inl rfl))) (aI (aM (hb)) (aM (hi)))); clear HO_5 HK HB HI0; obtain ⟨HO_5, HK, HB, HI0⟩ := n_; (try clear hb hk hi); obtain ⟨Ao18, co18, eo18⟩ := Kd.R_slice HO_5.out; subst eo18) | ((with_reducible refine gate_callee (f := 96) rfl ?_); refine gL (some 29) Try.func96 #[.pointer (some ⟨g, 0, none⟩)] ?_; (with_reducible refine (spec_l3Data.calls k1 g s0_0 t657 t658 t665 t666 t667 w0 _ ?side1 ?side2 A15.out).mono ?_); (case side1 => exact IsS123.iI HI0); (case side2 => exact bB); rintro e w19 ⟨rfl, hi, hb, hk⟩; refine ⟨_, rfl, ?_⟩; have n_ := aI (aM (Kd.R_mono (Kd.R_keep (IsS123.apart (show IsS123 w0 _ g s0_0 t657 t658 from IsS123.iI HI0) (rP HO_5.out) (by decide)) hk (fun _ h => h.2)) (fun _ h => h.1))) (aI (aM (KeepBut.trans (bK HK) hk (.inl rfl))) (aI (aM (hb)) (aM (hi)))); clear HO_5 HK HB HI0; obtain ⟨HO_5, HK, HB, HI0⟩ := n_; (try clear hb hk hi)) | ((with_reducible refine gate_builtin (b := .append) (xs := #[.tmp 26, .tmp 31]) rfl ?_); (try (refine gate_guard (by rfl) ?_; dsimp only)); at_builtin; refine Kd.R_append k65 w.heap.size rfl (.tmp 26) (.tmp 31) 28 65 (.agg #[(.int .i64 0), (.string ⟨#[]⟩)]) 24 rfl Try.underlying28 info65 rfl (by decide) (by omega) (.slice Ao18 x5_1.length co18) x5_1 (⟨x6_1, t665⟩ : S65) [.int .i64 x6_1, .string t665] (fun _ => True) (fun _ => False) rfl rfl ?aP (fun _ hk => hk.elim) ?aF ?aO (Below.refl _ _) ?aS ?aL ?_; (case aP => exact k65_mkM _ _ _ (⟨x6_1, t665⟩ : S65)); (case aF => exact (fun _ _ => trivial)); (case aO => exact (rP HO_5.out)); (case aS => exact (keep_size (w := w) (g := g) (row := none) (bK HK))); (case aL => have := LMc16.out; omega); intro v669 w20 ho hb hg hat; rw [← Ny668.out] at ho; have n_ := aI (aM (IsS123.grown (IsS123.iI HI0) hg (IsS123.own_ne HI0.out HO_5.out (by decide)))) (aI (aM (below_weaken bB HL.out hb)) (aI (aM (KeepBut.trans (bK HK) (KeepBut.of_grown hg g) (Kd.R_base2 HO_5.out))) (aM (ho)))); clear HI0 HB HK HO_5; obtain ⟨HI0, HB, HK, HO670⟩ := n_; (try clear ho hb hg hat)))
        go_roundg k1
        case measure => have := HK1.out; omega
        case rel => exact ⟨(y668), (wrap64 (x6_1 + 1)), (t666), (t667), (by first | rfl | (simp; done) | (simp [*]; done) | (simp; exact (by intro l_; cases l_ <;> rfl : ∀ l_ : List UInt8, l_.isEmpty = !(l_ != [])) _)), H', ⟨by have := HK1.out; omega⟩, ⟨rP HO670.out⟩, ⟨IsS123.iI HI0⟩, ⟨bK HK⟩, ⟨bB⟩⟩
       ·rw [if_neg c16] at H
        exact absurd H (by simp)
      ·rw [if_neg c14] at H
       have c14b0 : ((x5_1.length : Int) == 0) = false := beq_eq_false_iff_ne.mpr c14
       have c14b1 : ((x5_1.length : Int) != 0) = true := bne_iff_ne.mpr c14
       have c14b2 : ¬ (x5_1 = []) := fun h_ => c14 (by rw [h_]; rfl)
       have H' := aM H
       clear H
       go_wp2_with (first | ((with_reducible refine gate_callee (f := 120) rfl ?_); refine gL (some 14) Try.func120 #[.pointer (some ⟨g, 0, none⟩), .int .i64 3] ?_; (with_reducible refine (spec_l1Once.calls g s0_0 x1001_1 x1002_1 3 false t657 t658 w0 _ ?side1 ?side2 A6.out).mono ?_); (case side1 => exact IsS123.iI HI0); (case side2 => exact bB); rintro e w21 ⟨rfl, hi, hb, hk⟩; refine ⟨_, rfl, ?_⟩; have n_ := aI (aM (Kd.R_mono (Kd.R_keep (IsS123.apart (show IsS123 w0 _ g s0_0 x1001_1 x1002_1 from IsS123.iI HI0) (rP HO_5.out) (by decide)) hk (fun _ h => h.2)) (fun _ h => h.1))) (aI (aM (KeepBut.trans (bK HK) hk (.inl rfl))) (aI (aM (hb)) (aM (hi)))); clear HO_5 HK HB HI0; obtain ⟨HO_5, HK, HB, HI0⟩ := n_; (try clear hb hk hi); obtain ⟨Ao22, co22, eo22⟩ := Kd.R_slice HO_5.out; subst eo22))
       go_roundg k1
       case measure => have := HK1.out; omega
       case rel => exact ⟨(x5_1), (wrap64 (x6_1 + 1)), (t657), (t658), (by first | rfl | (simp; done) | (simp [*]; done) | (simp; exact (by intro l_; cases l_ <;> rfl : ∀ l_ : List UInt8, l_.isEmpty = !(l_ != [])) _)), H', ⟨by have := HK1.out; omega⟩, ⟨rP HO_5.out⟩, ⟨IsS123.iI HI0⟩, ⟨bK HK⟩, ⟨bB⟩⟩
     ·rw [if_neg c13] at H
      have c13b0 : (x6_1 == (wrap64 (a1 - 1))) = false := beq_eq_false_iff_ne.mpr c13
      have c13b1 : (x6_1 != (wrap64 (a1 - 1))) = true := bne_iff_ne.mpr c13
      have H' := aM H
      clear H
      go_wp2_with (first | ((with_reducible refine gate_callee (f := 120) rfl ?_); refine gL (some 14) Try.func120 #[.pointer (some ⟨g, 0, none⟩), .int .i64 3] ?_; (with_reducible refine (spec_l1Once.calls g s0_0 x1001_1 x1002_1 3 false t657 t658 w0 _ ?side1 ?side2 A6.out).mono ?_); (case side1 => exact IsS123.iI HI0); (case side2 => exact bB); rintro e w23 ⟨rfl, hi, hb, hk⟩; refine ⟨_, rfl, ?_⟩; have n_ := aI (aM (Kd.R_mono (Kd.R_keep (IsS123.apart (show IsS123 w0 _ g s0_0 x1001_1 x1002_1 from IsS123.iI HI0) (rP HO_5.out) (by decide)) hk (fun _ h => h.2)) (fun _ h => h.1))) (aI (aM (KeepBut.trans (bK HK) hk (.inl rfl))) (aI (aM (hb)) (aM (hi)))); clear HO_5 HK HB HI0; obtain ⟨HO_5, HK, HB, HI0⟩ := n_; (try clear hb hk hi)))
      go_roundg k1
      case measure => have := HK1.out; omega
      case rel => exact ⟨(x5_1), (wrap64 (x6_1 + 1)), (t657), (t658), (by first | rfl | (simp; done) | (simp [*]; done) | (simp; exact (by intro l_; cases l_ <;> rfl : ∀ l_ : List UInt8, l_.isEmpty = !(l_ != [])) _)), H', ⟨by have := HK1.out; omega⟩, ⟨rP HO_5.out⟩, ⟨IsS123.iI HI0⟩, ⟨bK HK⟩, ⟨bB⟩⟩
   ·rw [if_neg c5] at H
    have c5b0 : decide (x6_1 < a1) = false := decide_eq_false c5
    clear c5
    simp only [Option.some.injEq, Prod.mk.injEq] at H
    obtain ⟨rfl, rfl, rfl⟩ := H
    go_wp2
    go_ret
    exact ⟨_, eW, by (with_reducible repeat (first | apply Kd.R_alloc | apply Kd.R_drewN | apply Kd.R_drew)); exact HO_5.out, IsS123.iI HI0, bB, bK HK⟩

end Go.Proofs.Ytgmpdkefegofhaa.PFnRecovered
