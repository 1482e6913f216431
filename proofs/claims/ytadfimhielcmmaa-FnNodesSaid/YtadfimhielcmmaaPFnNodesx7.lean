-- Written by xprint.py, a program of this session over the kit's print. Not trusted: Lean checks it.
import Derived.Test.YtadfimhielcmmaaPFnNodesx0
import Derived.Test.YtadfimhielcmmaaPFnNodesx1
import Derived.Test.YtadfimhielcmmaaPFnNodesx6
namespace Go.Proofs.Ytadfimhielcmmaa.PFnNodes
open Go.RowKit Go.Proofs.YtadfimhielcmmaaW.PrintWords Go.Proofs.YtadfimhielcmmaaW.PrintLast Go.Proofs.YtadfimhielcmmaaW.PrintMore
attribute [local go_sem] max2_int min2_int max_two min_two max_three min_three max_four min_four   -- for this text's walks alone
set_option linter.unusedVariables false
set_option linter.unusedSimpArgs false

/-! ### spec_l5Right: function 40 -/
mutual
def spec_l5Right.j0 : Nat → List Int → Int → Int → Int → Int → Int → Int → Option (Int × Int × Int × Int × List Int × Int × Int)
 | 0, _, _, _, _, _, _, _ => none
 | k + 1, x1000, x1001, x1002, x234000, x234001, x234002, x234003 => (spec_l1Below.f x1000 x1001 x1002 30).bind fun bt255 => (spec_l5Right.l0 k bt255.1 0 x1000 bt255.2.1 bt255.2.2 x234000 x234001 x234002 x234003 ([] : List Int))
def spec_l5Right.l0 : Nat → Int → Int → List Int → Int → Int → Int → Int → Int → Int → List Int → Option (Int × Int × Int × Int × List Int × Int × Int)
 | 0, _, _, _, _, _, _, _, _, _, _ => none
 | k + 1, x4, x5, x1000, x1001, x1002, x234000, x234001, x234002, x234003, x234004 => (spec_BlocksFor.f x234003).bind fun t258 => (if x5 < t258 then (if x234004.length < 17592186044416 then (spec_l5Right.l0 k x4 (wrap64 (x5 + 1)) x1000 x1001 x1002 x234000 x234001 x234002 x234003 (x234004 ++ [wrap64 (x4 + x5)])) else (none)) else (some (x234000, x234001, x234002, x234003, x234004, x1001, x1002)))
end
def spec_l5Right.f (k : Nat) (s0_0 : List Int) (s0_1 : Int) (s0_2 : Int) : Option (Int × Int × Int × Int × List Int × Int × Int) := (spec_l1Below.f s0_0 s0_1 s0_2 4).bind fun bt230 => (if bt230.1 = 0 then (some (bt230.1, 0, 0, 0, ([] : List Int), bt230.2.1, bt230.2.2)) else ((spec_l1Below.f s0_0 bt230.2.1 bt230.2.2 81).bind fun bt234 => ((spec_l1PickInt.f s0_0 bt234.2.1 bt234.2.2 (([0, 1, 16, 17, 80, bt234.1] : List Int))).bind fun bt240 => (if bt230.1 = 2 then (spec_l5Right.j0 k s0_0 bt240.2.1 bt240.2.2 bt230.1 0 0 bt240.1) else ((spec_l1PickInt.f s0_0 bt240.2.1 bt240.2.2 (([0, 1, 5, 1000000] : List Int))).bind fun bt246 => ((spec_l1PickInt.f s0_0 bt246.2.1 bt246.2.2 (([0, 7, 100000] : List Int))).bind fun bt252 => (spec_l5Right.j0 k s0_0 bt252.2.1 bt252.2.2 bt230.1 bt246.1 bt252.1 bt240.1)))))))
theorem spec_l5Right.mono_l : ∀ k, (∀ y0 y1 y2 y3 y4 y5 y6, LeO (spec_l5Right.j0 k y0 y1 y2 y3 y4 y5 y6) (spec_l5Right.j0 (k + 1) y0 y1 y2 y3 y4 y5 y6)) ∧ (∀ y0 y1 y2 y3 y4 y5 y6 y7 y8 y9, LeO (spec_l5Right.l0 k y0 y1 y2 y3 y4 y5 y6 y7 y8 y9) (spec_l5Right.l0 (k + 1) y0 y1 y2 y3 y4 y5 y6 y7 y8 y9))
 | 0 => ⟨fun _ _ _ _ _ _ _ r h => by simp [spec_l5Right.j0] at h, fun _ _ _ _ _ _ _ _ _ _ r h => by simp [spec_l5Right.l0] at h⟩
 | k + 1 => by
  obtain ⟨ih0, ih1⟩ := spec_l5Right.mono_l k
  refine ⟨?_, ?_⟩
  ·intro y0 y1 y2 y3 y4 y5 y6
   unfold spec_l5Right.j0
   exact mM
  ·intro y0 y1 y2 y3 y4 y5 y6 y7 y8 y9
   unfold spec_l5Right.l0
   exact mM
theorem spec_l5Right.mono : ∀ a0 a1 a2 k, LeO (spec_l5Right.f k a0 a1 a2) (spec_l5Right.f (k + 1) a0 a1 a2) := by
 intro a0 a1 a2 k
 obtain ⟨ih0, ih1⟩ := spec_l5Right.mono_l k
 unfold spec_l5Right.f
 exact mM
set_option maxHeartbeats 8000000 in
set_option maxRecDepth 100000 in
theorem spec_l5Right.calls (k : Nat) (g : Nat) (s0_0 : List Int) (s0_1 : Int) (s0_2 : Int) (r1 : Int) (r2 : Int) (r3 : Int) (r4 : Int) (r5 : List Int) (r6 : Int) (r7 : Int) (w0 w : World) (hI : IsS65 w0 w g s0_0 s0_1 s0_2) (hB : Below w0.heap.size w0 w) (h : spec_l5Right.f k s0_0 s0_1 s0_2 = some (r1, r2, r3, r4, r5, r6, r7)) :
  Calls Try.prog 40 #[.pointer (some ⟨g, 0, none⟩)] w fun e w' => ∃ v4_ : Value, e = .returned (.agg #[.int .i64 r1, .int .i64 r2, .int .i64 r3, .int .i64 r4, v4_]) ∧ Kd.R (Kd.int .i64) 3 w' w.heap.size (fun _ => True) v4_ r5 ∧ IsS65 w0 w' g s0_0 r6 r7 ∧ Below w0.heap.size w0 w' ∧ KeepBut w w' g none := by
 have hu33 := Try.underlying33
 have HI0 := aM hI
 have GEg_ := aM (IsS65.ge hI)
 have HK := aM (KeepBut.refl w g none)
 have HL := aM hB.size
 clear hI
 have HW0 := aM hB.size
 have HB := aM hB
 clear hB
 unfold spec_l5Right.f at h
 have H := h
 clear h
 replace H := Option.bind_eq_some_iff.mp H
 obtain ⟨⟨t230, t231, t232⟩, A20, H⟩ := H
 try dsimp only at H
 have A2 := aM A20
 clear A20
 by_cases c3 : t230 = 0
 ·rw [if_pos c3] at H
  have c3b0 : (t230 == 0) = true := beq_iff_eq.mpr c3
  have c3b1 : (t230 != 0) = false := bne_eq_false_iff_eq.mpr c3
  clear c3
  simp only [Option.some.injEq, Prod.mk.injEq] at H
  obtain ⟨rfl, rfl, rfl, rfl, rfl, rfl, rfl⟩ := H
  go_enter Try.func40, Try.ntmps40
  go_wp2_with (first | ((with_reducible refine gate_dst (N := 2) rfl ?_); refine bE 2 #[.int .i64 0, .int .i64 0, .int .i64 0, .int .i64 0, .slice none 0 0] 33 ?_; intro gb229 hg w4 hbox hb; have n_ := aI (aM (IsS65.below (IsS65.iI HI0) hb)) (aI (aM (KeepBut.trans (bK HK) (KeepBut.of_below hb g none) (.inl rfl))) (aI (sB HB hb) (aI (aM hbox) (aI (aM ((by rw [hg]; exact (keep_size (w := w) (g := g) (row := none) (bK HK)) : w.heap.size ≤ gb229))) (aI (aM ((Nat.le_trans HW0.out (by rw [hg]; exact (keep_size (w := w) (g := g) (row := none) (bK HK)) : w.heap.size ≤ gb229) : w0.heap.size ≤ gb229))) (aI (aM ((by rw [hg]; exact Nat.ne_of_lt (IsS65.lt (show IsS65 w0 _ g s0_0 s0_1 s0_2 from IsS65.iI HI0)) : g ≠ gb229))) (aM ((by rw [hg]; exact Nat.ne_of_gt (IsS65.lt (show IsS65 w0 _ g s0_0 s0_1 s0_2 from IsS65.iI HI0)) : gb229 ≠ g))))))))); clear HI0 HK HB; obtain ⟨HI0, HK, HB, BK229, GW229, GE229, NB0_229, NB229_0⟩ := n_; (try clear hb hbox hg)) | ((with_reducible refine gate_callee (f := 41) rfl ?_); refine gL (some 7) Try.func41 #[.pointer (some ⟨g, 0, none⟩), .int .i64 4] ?_; (with_reducible refine (spec_l1Below.calls g s0_0 s0_1 s0_2 4 t230 t231 t232 w0 _ ?side1 ?side2 A2.out).mono ?_); (case side1 => exact IsS65.iI HI0); (case side2 => exact bB); rintro e w5 ⟨rfl, hi, hb, hk⟩; refine ⟨_, rfl, ?_⟩; have n_ := aI (aM (KeepBut.blk hk (g' := gb229) (o := .cells #[.int .i64 0, .int .i64 0, .int .i64 0, .int .i64 0, .slice none 0 0] 33 (0, 0)) (kP BK229) NB229_0.out (by simp))) (aI (aM (KeepBut.trans (bK HK) hk (.inl rfl))) (aI (aM (hb)) (aM (hi)))); clear BK229 HK HB HI0; obtain ⟨BK229, HK, HB, HI0⟩ := n_; (try clear hb hk hi)) | ((with_reducible refine gate_dst (N := 3) rfl ?_); refine bE 3 #[.int .i64 0, .int .i64 0, .int .i64 0, .int .i64 0, .slice none 0 0] 33 ?_; intro gb233 hg w6 hbox hb; have n_ := aI (aM (IsS65.below (IsS65.iI HI0) hb)) (aI (kB BK229 hb) (aI (aM (KeepBut.trans (bK HK) (KeepBut.of_below hb g none) (.inl rfl))) (aI (sB HB hb) (aI (aM hbox) (aI (aM ((by rw [hg]; exact (keep_size (w := w) (g := g) (row := none) (bK HK)) : w.heap.size ≤ gb233))) (aI (aM ((Nat.le_trans HW0.out (by rw [hg]; exact (keep_size (w := w) (g := g) (row := none) (bK HK)) : w.heap.size ≤ gb233) : w0.heap.size ≤ gb233))) (aI (nL BK229 hg) (aI (nG BK229 hg) (aI (aM ((by rw [hg]; exact Nat.ne_of_lt (IsS65.lt (show IsS65 w0 _ g s0_0 t231 t232 from IsS65.iI HI0)) : g ≠ gb233))) (aM ((by rw [hg]; exact Nat.ne_of_gt (IsS65.lt (show IsS65 w0 _ g s0_0 t231 t232 from IsS65.iI HI0)) : gb233 ≠ g)))))))))))); clear HI0 BK229 HK HB; obtain ⟨HI0, BK229, HK, HB, BK233, GW233, GE233, NB229_233, NB233_229, NB0_233, NB233_0⟩ := n_; (try clear hb hbox hg); have hnb7 := NB233_229.out; have hnc7 := NB229_233.out; have hnb8 := NB233_0.out; have hnc8 := NB0_233.out; have hcz9_0 := cZ0 BK233; have hcz9_1 := cZ1 BK233; have hcz9_2 : w6.cell? ⟨gb233, 2, none⟩ = some (.int .i64 0) := (blk_cell BK233.out 2).trans rfl; have hcz9_3 : w6.cell? ⟨gb233, 3, none⟩ = some (.int .i64 0) := (blk_cell BK233.out 3).trans rfl; have hcz9_4 : w6.cell? ⟨gb233, 4, none⟩ = some (.slice none 0 0) := (blk_cell BK233.out 4).trans rfl; have hfz9_0 := fZ BK233 0; have hfz9_1 := fZ BK233 1; have hfz9_2 := fZ BK233 2; have hfz9_3 := fZ BK233 3; have hfz9_4 := fZ BK233 4; have hnb10 := NB229_0.out; have hnc10 := NB0_229.out; have hcz11_0 := cZ0 BK229; have hcz11_1 := cZ1 BK229; have hcz11_2 : w6.cell? ⟨gb229, 2, none⟩ = some (.int .i64 0) := (blk_cell BK229.out 2).trans rfl; have hcz11_3 : w6.cell? ⟨gb229, 3, none⟩ = some (.int .i64 0) := (blk_cell BK229.out 3).trans rfl; have hcz11_4 : w6.cell? ⟨gb229, 4, none⟩ = some (.slice none 0 0) := (blk_cell BK229.out 4).trans rfl; have hfz11_0 := fZ BK229 0; have hfz11_1 := fZ BK229 1; have hfz11_2 := fZ BK229 2; have hfz11_3 := fZ BK229 3; have hfz11_4 := fZ BK229 4))
  refine bodyPost_ret (results_cell_row rfl _ _ gb229 33 #[.int .i64 t230, .int .i64 0, .int .i64 0, .int .i64 0, .slice none 0 0] (0, 0) _ rfl (by (with_reducible repeat (first | apply bN | apply bD | apply bA)); refine blk_put (cs := #[.int .i64 t230, .int .i64 0, .int .i64 0, .int .i64 0, .slice none 0 0]) ?_ 4 _ rfl; (with_reducible repeat (first | apply bN | apply bD | apply bA)); refine blk_put (cs := #[.int .i64 t230, .int .i64 0, .int .i64 0, .int .i64 0, .slice none 0 0]) ?_ 3 _ rfl; (with_reducible repeat (first | apply bN | apply bD | apply bA)); refine blk_put (cs := #[.int .i64 t230, .int .i64 0, .int .i64 0, .int .i64 0, .slice none 0 0]) ?_ 2 _ rfl; (with_reducible repeat (first | apply bN | apply bD | apply bA)); refine blk_put (cs := #[.int .i64 t230, .int .i64 0, .int .i64 0, .int .i64 0, .slice none 0 0]) ?_ 1 _ rfl; (with_reducible repeat (first | apply bN | apply bD | apply bA)); refine blk_put (cs := #[.int .i64 0, .int .i64 0, .int .i64 0, .int .i64 0, .slice none 0 0]) ?_ 0 _ rfl; (with_reducible repeat (first | apply bN | apply bD | apply bA)); refine blk_far ?_ NB229_233.out _; (with_reducible repeat (first | apply bN | apply bD | apply bA)); refine blk_far ?_ NB229_233.out _; (with_reducible repeat (first | apply bN | apply bD | apply bA)); refine blk_far ?_ NB229_233.out _; (with_reducible repeat (first | apply bN | apply bD | apply bA)); refine blk_far ?_ NB229_233.out _; (with_reducible repeat (first | apply bN | apply bD | apply bA)); refine blk_far ?_ NB229_233.out _; (with_reducible repeat (first | apply bN | apply bD | apply bA)); exact BK229.out) Try.underlying33 rfl (by kernel_rfl)) rfl ?_
  exact ⟨_, eW, by first | exact Kd.R_nil _ _ _ _ _ | exact Kd.N_nil _ _ _ _ _ | exact Kd.V_nil _ _ _ _ _ | exact Kd.Q_nil _ _ _ _ _ | exact Kd.S_nil _ _ _ _ _, IsS65.iI HI0, bB, bK HK⟩
 rw [if_neg c3] at H
 have c3b0 : (t230 == 0) = false := beq_eq_false_iff_ne.mpr c3
 have c3b1 : (t230 != 0) = true := bne_iff_ne.mpr c3
 replace H := Option.bind_eq_some_iff.mp H
 obtain ⟨⟨t234, t235, t236⟩, A120, H⟩ := H
 try dsimp only at H
 have A12 := aM A120
 clear A120
 obtain ⟨y237, hy237⟩ : ∃ y_ : List Int, y_ = (([0, 1, 16, 17, 80, t234] : List Int)) := ⟨_, rfl⟩
 replace H : ((spec_l1PickInt.f s0_0 t235 t236 y237).bind fun bt240 => (if t230 = 2 then (spec_l5Right.j0 k s0_0 bt240.2.1 bt240.2.2 t230 0 0 bt240.1) else ((spec_l1PickInt.f s0_0 bt240.2.1 bt240.2.2 (([0, 1, 5, 1000000] : List Int))).bind fun bt246 => ((spec_l1PickInt.f s0_0 bt246.2.1 bt246.2.2 (([0, 7, 100000] : List Int))).bind fun bt252 => (spec_l5Right.j0 k s0_0 bt252.2.1 bt252.2.2 t230 bt246.1 bt252.1 bt240.1))))) = some (r1, r2, r3, r4, r5, r6, r7) := bQ hy237 H
 have Ny237 := aM hy237
 clear hy237
 replace H := Option.bind_eq_some_iff.mp H
 obtain ⟨⟨t240, t241, t242⟩, A130, H⟩ := H
 try dsimp only at H
 have A13 := aM A130
 clear A130
 have HC14 := aM H
 clear H
 go_enter Try.func40, Try.ntmps40
 go_upto_if 21 with (first | ((with_reducible refine gate_dst (N := 2) rfl ?_); refine bE 2 #[.int .i64 0, .int .i64 0, .int .i64 0, .int .i64 0, .slice none 0 0] 33 ?_; intro gb229 hg w15 hbox hb; have n_ := aI (aM (IsS65.below (IsS65.iI HI0) hb)) (aI (aM (KeepBut.trans (bK HK) (KeepBut.of_below hb g none) (.inl rfl))) (aI (sB HB hb) (aI (aM hbox) (aI (aM ((by rw [hg]; exact (keep_size (w := w) (g := g) (row := none) (bK HK)) : w.heap.size ≤ gb229))) (aI (aM ((Nat.le_trans HW0.out (by rw [hg]; exact (keep_size (w := w) (g := g) (row := none) (bK HK)) : w.heap.size ≤ gb229) : w0.heap.size ≤ gb229))) (aI (aM ((by rw [hg]; exact Nat.ne_of_lt (IsS65.lt (show IsS65 w0 _ g s0_0 s0_1 s0_2 from IsS65.iI HI0)) : g ≠ gb229))) (aM ((by rw [hg]; exact Nat.ne_of_gt (IsS65.lt (show IsS65 w0 _ g s0_0 s0_1 s0_2 from IsS65.iI HI0)) : gb229 ≠ g))))))))); clear HI0 HK HB; obtain ⟨HI0, HK, HB, BK229, GW229, GE229, NB0_229, NB229_0⟩ := n_; (try clear hb hbox hg)) | ((with_reducible refine gate_callee (f := 41) rfl ?_); refine gL (some 7) Try.func41 #[.pointer (some ⟨g, 0, none⟩), .int .i64 4] ?_; (with_reducible refine (spec_l1Below.calls g s0_0 s0_1 s0_2 4 t230 t231 t232 w0 _ ?side1 ?side2 A2.out).mono ?_); (case side1 => exact IsS65.iI HI0); (case side2 => exact bB); rintro e w16 ⟨rfl, hi, hb, hk⟩; refine ⟨_, rfl, ?_⟩; have n_ := aI (aM (KeepBut.blk hk (g' := gb229) (o := .cells #[.int .i64 0, .int .i64 0, .int .i64 0, .int .i64 0, .slice none 0 0] 33 (0, 0)) (kP BK229) NB229_0.out (by simp))) (aI (aM (KeepBut.trans (bK HK) hk (.inl rfl))) (aI (aM (hb)) (aM (hi)))); clear BK229 HK HB HI0; obtain ⟨BK229, HK, HB, HI0⟩ := n_; (try clear hb hk hi)) | ((with_reducible refine gate_dst (N := 3) rfl ?_); refine bE 3 #[.int .i64 0, .int .i64 0, .int .i64 0, .int .i64 0, .slice none 0 0] 33 ?_; intro gb233 hg w17 hbox hb; have n_ := aI (aM (IsS65.below (IsS65.iI HI0) hb)) (aI (kB BK229 hb) (aI (aM (KeepBut.trans (bK HK) (KeepBut.of_below hb g none) (.inl rfl))) (aI (sB HB hb) (aI (aM hbox) (aI (aM ((by rw [hg]; exact (keep_size (w := w) (g := g) (row := none) (bK HK)) : w.heap.size ≤ gb233))) (aI (aM ((Nat.le_trans HW0.out (by rw [hg]; exact (keep_size (w := w) (g := g) (row := none) (bK HK)) : w.heap.size ≤ gb233) : w0.heap.size ≤ gb233))) (aI (nL BK229 hg) (aI (nG BK229 hg) (aI (aM ((by rw [hg]; exact Nat.ne_of_lt (IsS65.lt (show IsS65 w0 _ g s0_0 t231 t232 from IsS65.iI HI0)) : g ≠ gb233))) (aM ((by rw [hg]; exact Nat.ne_of_gt (IsS65.lt (show IsS65 w0 _ g s0_0 t231 t232 from IsS65.iI HI0)) : gb233 ≠ g)))))))))))); clear HI0 BK229 HK HB; obtain ⟨HI0, BK229, HK, HB, BK233, GW233, GE233, NB229_233, NB233_229, NB0_233, NB233_0⟩ := n_; (try clear hb hbox hg); have hnb18 := NB233_229.out; have hnc18 := NB229_233.out; have hnb19 := NB233_0.out; have hnc19 := NB0_233.out; have hcz20_0 := cZ0 BK233; have hcz20_1 := cZ1 BK233; have hcz20_2 : w17.cell? ⟨gb233, 2, none⟩ = some (.int .i64 0) := (blk_cell BK233.out 2).trans rfl; have hcz20_3 : w17.cell? ⟨gb233, 3, none⟩ = some (.int .i64 0) := (blk_cell BK233.out 3).trans rfl; have hcz20_4 : w17.cell? ⟨gb233, 4, none⟩ = some (.slice none 0 0) := (blk_cell BK233.out 4).trans rfl; have hfz20_0 := fZ BK233 0; have hfz20_1 := fZ BK233 1; have hfz20_2 := fZ BK233 2; have hfz20_3 := fZ BK233 3; have hfz20_4 := fZ BK233 4) | ((with_reducible refine gate_callee (f := 41) rfl ?_); refine gL (some 15) Try.func41 #[.pointer (some ⟨g, 0, none⟩), .int .i64 81] ?_; (with_reducible refine (spec_l1Below.calls g s0_0 t231 t232 81 t234 t235 t236 w0 _ ?side1 ?side2 A12.out).mono ?_); (case side1 => exact IsS65.iI HI0); (case side2 => exact bB); rintro e w21 ⟨rfl, hi, hb, hk⟩; refine ⟨_, rfl, ?_⟩; have n_ := aI (aM (KeepBut.blk hk (g' := gb229) (o := .cells #[.int .i64 0, .int .i64 0, .int .i64 0, .int .i64 0, .slice none 0 0] 33 (0, 0)) (kP BK229) NB229_0.out (by simp))) (aI (aM (KeepBut.blk hk (g' := gb233) (o := .cells #[.int .i64 t230, .int .i64 0, .int .i64 0, .int .i64 0, .slice none 0 0] 33 (0, 0)) (by (with_reducible repeat (first | apply bN | apply bD | apply bA)); refine blk_put (cs := #[.int .i64 t230, .int .i64 0, .int .i64 0, .int .i64 0, .slice none 0 0]) ?_ 4 _ rfl; (with_reducible repeat (first | apply bN | apply bD | apply bA)); refine blk_put (cs := #[.int .i64 t230, .int .i64 0, .int .i64 0, .int .i64 0, .slice none 0 0]) ?_ 3 _ rfl; (with_reducible repeat (first | apply bN | apply bD | apply bA)); refine blk_put (cs := #[.int .i64 t230, .int .i64 0, .int .i64 0, .int .i64 0, .slice none 0 0]) ?_ 2 _ rfl; (with_reducible repeat (first | apply bN | apply bD | apply bA)); refine blk_put (cs := #[.int .i64 t230, .int .i64 0, .int .i64 0, .int .i64 0, .slice none 0 0]) ?_ 1 _ rfl; (with_reducible repeat (first | apply bN | apply bD | apply bA)); refine blk_put (cs := #[.int .i64 0, .int .i64 0, .int .i64 0, .int .i64 0, .slice none 0 0]) ?_ 0 _ rfl; (with_reducible repeat (first | apply bN | apply bD | apply bA)); exact BK233.out) NB233_0.out (by simp))) (aI (aM (KeepBut.trans (bK HK) hk (.inl rfl))) (aI (aM (hb)) (aM (hi))))); clear BK229 BK233 HK HB HI0; obtain ⟨BK229, BK233, HK, HB, HI0⟩ := n_; (try clear hb hk hi)) | ((with_reducible refine gate_dst (N := 16) rfl ?_); refine Kd.R_lit (Kd.int .i64) _ 3 ?hg (N := 16) ?hd (xs := ([0, 1, 16, 17, 80, t234] : List Int)) (inner := [.int .i64 0, .int .i64 1, .int .i64 16, .int .i64 17, .int .i64 80, .int .i64 t234]) (ok := fun _ => True) (okp := fun _ => True) ?hr ?hp (fun _ hk => hk) trivial (Below.refl _ _) (Nat.le_refl _) (by simp) ?_; (case hd => rfl); (case hg => rfl); (case hr => first | (go_simp; done) | (go_simp; rfl)); (case hp => exact (Reps.one (show Kd.M (Kd.int .i64) _ _ _ 0 [.int .i64 0] from rfl) (Reps.one (show Kd.M (Kd.int .i64) _ _ _ 1 [.int .i64 1] from rfl) (Reps.one (show Kd.M (Kd.int .i64) _ _ _ 16 [.int .i64 16] from rfl) (Reps.one (show Kd.M (Kd.int .i64) _ _ _ 17 [.int .i64 17] from rfl) (Reps.one (show Kd.M (Kd.int .i64) _ _ _ 80 [.int .i64 80] from rfl) (Reps.one (show Kd.M (Kd.int .i64) _ _ _ t234 [.int .i64 t234] from rfl) (Reps.none _ _)))))))); intro v238 w22 ho23 hb hg_ hnew_; clear hg_ hnew_; (first | rw [← Ny237.out] at ho23 | (simp only [Int.reduceToNat] at ho23; rw [← Ny237.out] at ho23)); have n_ := aI (aM (Kd.R_lower ho23 (keep_size (w := w) (g := g) (row := none) (bK HK)))) (aI (aM (IsS65.below (IsS65.iI HI0) hb)) (aI (kB BK229 hb) (aI (kB BK233 hb) (aI (aM (KeepBut.trans (bK HK) (KeepBut.of_below hb g none) (.inl rfl))) (sB HB hb))))); clear HI0 BK229 BK233 HK HB; obtain ⟨HO239, HI0, BK229, BK233, HK, HB⟩ := n_; (try clear hb ho23); obtain ⟨Ao24, co24, eo24⟩ := Kd.R_slice HO239.out; subst eo24) | ((with_reducible refine gate_callee (f := 49) rfl ?_); refine gL (some 17) Try.func49 #[.pointer (some ⟨g, 0, none⟩), .slice Ao24 y237.length co24] ?_; (with_reducible refine (spec_l1PickInt.calls g s0_0 t235 t236 _ _ y237 t240 t241 t242 w0 _ ?side1 ?side2 ?side3 ?side4 ?side5 A13.out).mono ?_); (case side1 => exact IsS65.iI HI0); (case side2 => exact bB); (case side3 => exact cR HO239); (case side4 => exact (Kd.R_reads' HO239.out).2.1); (case side5 => exact far_slice (IsS65.own_ne HI0.out HO239.out (by decide))); rintro e w25 ⟨rfl, hi, hb, hk⟩; refine ⟨_, rfl, ?_⟩; have n_ := aI (aM (KeepBut.blk hk (g' := gb229) (o := .cells #[.int .i64 0, .int .i64 0, .int .i64 0, .int .i64 0, .slice none 0 0] 33 (0, 0)) (kP BK229) NB229_0.out (by simp))) (aI (aM (KeepBut.blk hk (g' := gb233) (o := .cells #[.int .i64 t230, .int .i64 0, .int .i64 0, .int .i64 0, .slice none 0 0] 33 (0, 0)) (kP BK233) NB233_0.out (by simp))) (aI (aM (Kd.R_mono (Kd.R_keep (IsS65.apart (show IsS65 w0 _ g s0_0 t235 t236 from IsS65.iI HI0) (rP HO239.out) (by decide)) hk (fun _ h => h.2)) (fun _ h => h.1))) (aI (aM (KeepBut.trans (bK HK) hk (.inl rfl))) (aI (aM (hb)) (aM (hi)))))); clear BK229 BK233 HO239 HK HB HI0; obtain ⟨BK229, BK233, HO239, HK, HB, HI0⟩ := n_; (try clear hb hk hi); have hcz26_0 := cZ0 BK233; have hcz26_1 := cZ1 BK233; have hcz26_2 : w25.cell? ⟨gb233, 2, none⟩ = some (.int .i64 0) := (blk_cell BK233.out 2).trans rfl; have hcz26_3 : w25.cell? ⟨gb233, 3, none⟩ = some (.int .i64 0) := (blk_cell BK233.out 3).trans rfl; have hcz26_4 : w25.cell? ⟨gb233, 4, none⟩ = some (.slice none 0 0) := (blk_cell BK233.out 4).trans rfl; have hfz26_0 := fZ BK233 0; have hfz26_1 := fZ BK233 1; have hfz26_2 := fZ BK233 2; have hfz26_3 := fZ BK233 3; have hfz26_4 := fZ BK233 4))
 (try simp only [Act.put, List.setIfInBounds_toArray, List.set_cons_zero, List.set_cons_succ])
 go_cut [] (fun wc => ∃ (kq : Nat) (x1001_13 : Int) (x1002_13 : Int) (x234001_13 : Int) (x234002_13 : Int), Aside0 (spec_l5Right.j0 kq s0_0 x1001_13 x1002_13 t230 x234001_13 x234002_13 t240 = some (r1, r2, r3, r4, r5, r6, r7)) ∧ Aside0 (kq ≤ k) ∧ Aside0 (wc.heap[gb229]? = some (.cells #[.int .i64 0, .int .i64 0, .int .i64 0, .int .i64 0, (.slice none 0 0)] 33 (0, 0))) ∧ Aside0 (wc.heap[gb233]? = some (.cells #[.int .i64 t230, .int .i64 x234001_13, .int .i64 x234002_13, .int .i64 t240, (.slice none 0 0)] 33 (0, 0))) ∧ Aside0 (IsS65 w0 wc g s0_0 x1001_13 x1002_13) ∧ Aside0 (KeepBut w wc g none) ∧ Aside0 (Below w0.heap.size w0 wc))
 case first =>
  have H := HC14.out
  clear HC14
  by_cases c27 : t230 = 2
  ·rw [if_pos c27] at H
   have c27b0 : (t230 == 2) = true := beq_iff_eq.mpr c27
   have c27b1 : (t230 != 2) = false := bne_eq_false_iff_eq.mpr c27
   clear c27
   (first | rw [c27b0] | (simp only [i64_w, i32_w]; rw [c27b0]) | rw [c27b1] | rw [c27b2] | skip)
   have H' := aM H
   clear H
   go_wp2
   go_meet
   case rel => exact ⟨_, (t241), (t242), (0), (0), H', ⟨by first | omega | exact Nat.le_refl _⟩, ⟨kP BK229⟩, ⟨by (with_reducible repeat (first | apply bN | apply bD | apply bA)); refine blk_put (cs := #[.int .i64 t230, .int .i64 0, .int .i64 0, .int .i64 0, .slice none 0 0]) ?_ 3 _ rfl; (with_reducible repeat (first | apply bN | apply bD | apply bA)); exact BK233.out⟩, ⟨IsS65.iI HI0⟩, ⟨bK HK⟩, ⟨bB⟩⟩
  rw [if_neg c27] at H
  have c27b0 : (t230 == 2) = false := beq_eq_false_iff_ne.mpr c27
  have c27b1 : (t230 != 2) = true := bne_iff_ne.mpr c27
  (first | rw [c27b0] | (simp only [i64_w, i32_w]; rw [c27b0]) | rw [c27b1] | rw [c27b2] | skip)
  obtain ⟨y243, hy243⟩ : ∃ y_ : List Int, y_ = (([0, 1, 5, 1000000] : List Int)) := ⟨_, rfl⟩
  replace H : ((spec_l1PickInt.f s0_0 t241 t242 y243).bind fun bt246 => ((spec_l1PickInt.f s0_0 bt246.2.1 bt246.2.2 (([0, 7, 100000] : List Int))).bind fun bt252 => (spec_l5Right.j0 k s0_0 bt252.2.1 bt252.2.2 t230 bt246.1 bt252.1 t240))) = some (r1, r2, r3, r4, r5, r6, r7) := bQ hy243 H
  have Ny243 := aM hy243
  clear hy243
  replace H := Option.bind_eq_some_iff.mp H
  obtain ⟨⟨t246, t247, t248⟩, A280, H⟩ := H
  try dsimp only at H
  have A28 := aM A280
  clear A280
  obtain ⟨y249, hy249⟩ : ∃ y_ : List Int, y_ = (([0, 7, 100000] : List Int)) := ⟨_, rfl⟩
  replace H : ((spec_l1PickInt.f s0_0 t247 t248 y249).bind fun bt252 => (spec_l5Right.j0 k s0_0 bt252.2.1 bt252.2.2 t230 t246 bt252.1 t240)) = some (r1, r2, r3, r4, r5, r6, r7) := bQ hy249 H
  have Ny249 := aM hy249
  clear hy249
  replace H := Option.bind_eq_some_iff.mp H
  obtain ⟨⟨t252, t253, t254⟩, A290, H⟩ := H
  try dsimp only at H
  have A29 := aM A290
  clear A290
  have H' := aM H
  clear H
  go_wp2_with (first | ((with_reducible refine gate_dst (N := 23) rfl ?_); refine Kd.R_lit (Kd.int .i64) _ 3 ?hg (N := 23) ?hd (xs := ([0, 1, 5, 1000000] : List Int)) (inner := [.int .i64 0, .int .i64 1, .int .i64 5, .int .i64 1000000]) (ok := fun _ => True) (okp := fun _ => True) ?hr ?hp (fun _ hk => hk) trivial (Below.refl _ _) (Nat.le_refl _) (by simp) ?_; (case hd => rfl); (case hg => rfl); (case hr => first | (go_simp; done) | (go_simp; rfl)); (case hp => exact (Reps.one (show Kd.M (Kd.int .i64) _ _ _ 0 [.int .i64 0] from rfl) (Reps.one (show Kd.M (Kd.int .i64) _ _ _ 1 [.int .i64 1] from rfl) (Reps.one (show Kd.M (Kd.int .i64) _ _ _ 5 [.int .i64 5] from rfl) (Reps.one (show Kd.M (Kd.int .i64) _ _ _ 1000000 [.int .i64 1000000] from rfl) (Reps.none _ _)))))); intro v244 w30 ho31 hb hg_ hnew_; clear hg_ hnew_; (first | rw [← Ny243.out] at ho31 | (simp only [Int.reduceToNat] at ho31; rw [← Ny243.out] at ho31)); have n_ := aI (aM (Kd.R_elder' (rP (Kd.R_mono (Kd.R_far (p := ⟨gb233, 3, none⟩) (Kd.R_types HO239.out BK233.out (by decide)) (fun _ hk => hk.2) (.int .i64 t240)) (fun _ h_ => h_.1))) (Kd.R_base ho31) hb)) (aI (aM (Kd.R_lower (Kd.R_new' ho31 (Kd.R_lt (rP (Kd.R_mono (Kd.R_far (p := ⟨gb233, 3, none⟩) (Kd.R_types HO239.out BK233.out (by decide)) (fun _ hk => hk.2) (.int .i64 t240)) (fun _ h_ => h_.1))))) (keep_size (w := w) (g := g) (row := none) (bK HK)))) (aI (aM (IsS65.below (show IsS65 w0 (w25.setCell ⟨gb233, 3, none⟩ (.int .i64 t240)) g s0_0 t241 t242 from IsS65.iI HI0) hb)) (aI (kB BK229 hb) (aI (aM (blk_below (g := gb233) (o := .cells #[.int .i64 t230, .int .i64 0, .int .i64 0, .int .i64 t240, .slice none 0 0] 33 (0, 0)) (by (with_reducible repeat (first | apply bN | apply bD | apply bA)); refine blk_put (cs := #[.int .i64 t230, .int .i64 0, .int .i64 0, .int .i64 0, .slice none 0 0]) ?_ 3 _ rfl; (with_reducible repeat (first | apply bN | apply bD | apply bA)); exact BK233.out) hb)) (aI (aM (KeepBut.trans (bK HK) (KeepBut.of_below hb g none) (.inl rfl))) (sB HB hb)))))); clear HO239 HI0 BK229 BK233 HK HB; obtain ⟨HO239, HO245, HI0, BK229, BK233, HK, HB⟩ := n_; (try clear hb ho31); obtain ⟨Ao32, co32, eo32⟩ := Kd.R_slice HO245.out; subst eo32) | ((with_reducible refine gate_callee (f := 49) rfl ?_); refine gL (some 24) Try.func49 #[.pointer (some ⟨g, 0, none⟩), .slice Ao32 y243.length co32] ?_; (with_reducible refine (spec_l1PickInt.calls g s0_0 t241 t242 _ _ y243 t246 t247 t248 w0 _ ?side1 ?side2 ?side3 ?side4 ?side5 A28.out).mono ?_); (case side1 => exact IsS65.iI HI0); (case side2 => exact bB); (case side3 => exact cR HO245); (case side4 => exact (Kd.R_reads' HO245.out).2.1); (case side5 => exact far_slice (IsS65.own_ne HI0.out HO245.out (by decide))); rintro e w33 ⟨rfl, hi, hb, hk⟩; refine ⟨_, rfl, ?_⟩; have n_ := aI (aM (KeepBut.blk hk (g' := gb229) (o := .cells #[.int .i64 0, .int .i64 0, .int .i64 0, .int .i64 0, .slice none 0 0] 33 (0, 0)) (kP BK229) NB229_0.out (by simp))) (aI (aM (KeepBut.blk hk (g' := gb233) (o := .cells #[.int .i64 t230, .int .i64 0, .int .i64 0, .int .i64 t240, .slice none 0 0] 33 (0, 0)) (kP BK233) NB233_0.out (by simp))) (aI (aM (Kd.R_mono (Kd.R_keep (IsS65.apart (show IsS65 w0 _ g s0_0 t241 t242 from IsS65.iI HI0) (rP HO239.out) (by decide)) hk (fun _ h => h.2)) (fun _ h => h.1))) (aI (aM (Kd.R_mono (Kd.R_keep (IsS65.apart (show IsS65 w0 _ g s0_0 t241 t242 from IsS65.iI HI0) (rP HO245.out) (by decide)) hk (fun _ h => h.2)) (fun _ h => h.1))) (aI (aM (KeepBut.trans (bK HK) hk (.inl rfl))) (aI (aM (hb)) (aM (hi))))))); clear BK229 BK233 HO239 HO245 HK HB HI0; obtain ⟨BK229, BK233, HO239, HO245, HK, HB, HI0⟩ := n_; (try clear hb hk hi); have hnb34 := NB233_229.out; have hnc34 := NB229_233.out; have hnb35 := NB233_0.out; have hnc35 := NB0_233.out; have hcz36_0 := cZ0 BK233; have hcz36_1 := cZ1 BK233; have hcz36_2 : w33.cell? ⟨gb233, 2, none⟩ = some (.int .i64 0) := (blk_cell BK233.out 2).trans rfl; have hcz36_3 : w33.cell? ⟨gb233, 3, none⟩ = some (.int .i64 t240) := (blk_cell BK233.out 3).trans rfl; have hcz36_4 : w33.cell? ⟨gb233, 4, none⟩ = some (.slice none 0 0) := (blk_cell BK233.out 4).trans rfl; have hfz36_0 := fZ BK233 0; have hfz36_1 := fZ BK233 1; have hfz36_2 := fZ BK233 2; have hfz36_3 := fZ BK233 3; have hfz36_4 := fZ BK233 4) | ((with_reducible refine gate_dst (N := 27) rfl ?_); refine Kd.R_lit (Kd.int .i64) _ 3 ?hg (N := 27) ?hd (xs := ([0, 7, 100000] : List Int)) (inner := [.int .i64 0, .int .i64 7, .int .i64 100000]) (ok := fun _ => True) (okp := fun _ => True) ?hr ?hp (fun _ hk => hk) trivial (Below.refl _ _) (Nat.le_refl _) (by simp) ?_; (case hd => rfl); (case hg => rfl); (case hr => first | (go_simp; done) | (go_simp; rfl)); (case hp => exact (Reps.one (show Kd.M (Kd.int .i64) _ _ _ 0 [.int .i64 0] from rfl) (Reps.one (show Kd.M (Kd.int .i64) _ _ _ 7 [.int .i64 7] from rfl) (Reps.one (show Kd.M (Kd.int .i64) _ _ _ 100000 [.int .i64 100000] from rfl) (Reps.none _ _))))); intro v250 w37 ho38 hb hg_ hnew_; clear hg_ hnew_; (first | rw [← Ny249.out] at ho38 | (simp only [Int.reduceToNat] at ho38; rw [← Ny249.out] at ho38)); have n_ := aI (aM (Kd.R_elder' (rP (Kd.R_mono (Kd.R_far (p := ⟨gb233, 1, none⟩) (Kd.R_types HO239.out BK233.out (by decide)) (fun _ hk => hk.2) (.int .i64 t246)) (fun _ h_ => h_.1))) (Kd.R_base ho38) hb)) (aI (aM (Kd.R_elder' (rP (Kd.R_mono (Kd.R_far (p := ⟨gb233, 1, none⟩) (Kd.R_types HO245.out BK233.out (by decide)) (fun _ hk => hk.2) (.int .i64 t246)) (fun _ h_ => h_.1))) (Kd.R_base ho38) hb)) (aI (aM (Kd.R_lower (Kd.R_new' (Kd.R_new' ho38 (Kd.R_lt (rP (Kd.R_mono (Kd.R_far (p := ⟨gb233, 1, none⟩) (Kd.R_types HO239.out BK233.out (by decide)) (fun _ hk => hk.2) (.int .i64 t246)) (fun _ h_ => h_.1))))) (Kd.R_lt (rP (Kd.R_mono (Kd.R_far (p := ⟨gb233, 1, none⟩) (Kd.R_types HO245.out BK233.out (by decide)) (fun _ hk => hk.2) (.int .i64 t246)) (fun _ h_ => h_.1))))) (keep_size (w := w) (g := g) (row := none) (bK HK)))) (aI (aM (IsS65.below (show IsS65 w0 (w33.setCell ⟨gb233, 1, none⟩ (.int .i64 t246)) g s0_0 t247 t248 from IsS65.iI HI0) hb)) (aI (kB BK229 hb) (aI (aM (blk_below (g := gb233) (o := .cells #[.int .i64 t230, .int .i64 t246, .int .i64 0, .int .i64 t240, .slice none 0 0] 33 (0, 0)) (by (with_reducible repeat (first | apply bN | apply bD | apply bA)); refine blk_put (cs := #[.int .i64 t230, .int .i64 0, .int .i64 0, .int .i64 t240, .slice none 0 0]) ?_ 1 _ rfl; (with_reducible repeat (first | apply bN | apply bD | apply bA)); exact BK233.out) hb)) (aI (aM (KeepBut.trans (bK HK) (KeepBut.of_below hb g none) (.inl rfl))) (sB HB hb))))))); clear HO239 HO245 HI0 BK229 BK233 HK HB; obtain ⟨HO239, HO245, HO251, HI0, BK229, BK233, HK, HB⟩ := n_; (try clear hb ho38); obtain ⟨Ao39, co39, eo39⟩ := Kd.R_slice HO251.out; subst eo39) | ((with_reducible refine gate_callee (f := 49) rfl ?_); refine gL (some 28) Try.func49 #[.pointer (some ⟨g, 0, none⟩), .slice Ao39 y249.length co39] ?_; (with_reducible refine (spec_l1PickInt.calls g s0_0 t247 t248 _ _ y249 t252 t253 t254 w0 _ ?side1 ?side2 ?side3 ?side4 ?side5 A29.out).mono ?_); (case side1 => exact IsS65.iI HI0); (case side2 => exact bB); (case side3 => exact cR HO251); (case side4 => exact (Kd.R_reads' HO251.out).2.1); (case side5 => exact far_slice (IsS65.own_ne HI0.out HO251.out (by decide))); rintro e w40 ⟨rfl, hi, hb, hk⟩; refine ⟨_, rfl, ?_⟩; have n_ := aI (aM (KeepBut.blk hk (g' := gb229) (o := .cells #[.int .i64 0, .int .i64 0, .int .i64 0, .int .i64 0, .slice none 0 0] 33 (0, 0)) (kP BK229) NB229_0.out (by simp))) (aI (aM (KeepBut.blk hk (g' := gb233) (o := .cells #[.int .i64 t230, .int .i64 t246, .int .i64 0, .int .i64 t240, .slice none 0 0] 33 (0, 0)) (kP BK233) NB233_0.out (by simp))) (aI (aM (Kd.R_mono (Kd.R_keep (IsS65.apart (show IsS65 w0 _ g s0_0 t247 t248 from IsS65.iI HI0) (rP HO239.out) (by decide)) hk (fun _ h => h.2)) (fun _ h => h.1))) (aI (aM (Kd.R_mono (Kd.R_keep (IsS65.apart (show IsS65 w0 _ g s0_0 t247 t248 from IsS65.iI HI0) (rP HO245.out) (by decide)) hk (fun _ h => h.2)) (fun _ h => h.1))) (aI (aM (Kd.R_mono (Kd.R_keep (IsS65.apart (show IsS65 w0 _ g s0_0 t247 t248 from IsS65.iI HI0) (rP HO251.out) (by decide)) hk (fun _ h => h.2)) (fun _ h => h.1))) (aI (aM (KeepBut.trans (bK HK) hk (.inl rfl))) (aI (aM (hb)) (aM (hi)))))))); clear BK229 BK233 HO239 HO245 HO251 HK HB HI0; obtain ⟨BK229, BK233, HO239, HO245, HO251, HK, HB, HI0⟩ := n_; (try clear hb hk hi); have hcz41_0 := cZ0 BK233; have hcz41_1 := cZ1 BK233; have hcz41_2 : w40.cell? ⟨gb233, 2, none⟩ = some (.int .i64 0) := (blk_cell BK233.out 2).trans rfl; have hcz41_3 : w40.cell? ⟨gb233, 3, none⟩ = some (.int .i64 t240) := (blk_cell BK233.out 3).trans rfl; have hcz41_4 : w40.cell? ⟨gb233, 4, none⟩ = some (.slice none 0 0) := (blk_cell BK233.out 4).trans rfl; have hfz41_0 := fZ BK233 0; have hfz41_1 := fZ BK233 1; have hfz41_2 := fZ BK233 2; have hfz41_3 := fZ BK233 3; have hfz41_4 := fZ BK233 4))
  go_meet
  case rel => exact ⟨_, (t253), (t254), (t246), (t252), H', ⟨by first | omega | exact Nat.le_refl _⟩, ⟨kP BK229⟩, ⟨by (with_reducible repeat (first | apply bN | apply bD | apply bA)); refine blk_put (cs := #[.int .i64 t230, .int .i64 t246, .int .i64 0, .int .i64 t240, .slice none 0 0]) ?_ 2 _ rfl; (with_reducible repeat (first | apply bN | apply bD | apply bA)); exact BK233.out⟩, ⟨IsS65.iI HI0⟩, ⟨bK HK⟩, ⟨bB⟩⟩
 case rest =>
  clear HC14
  try clear c1
  try clear c2
  try clear p2
  try clear c3
  try clear c3b0
  try clear c3b1
  try clear c4
  try clear c7
  try clear c8
  try clear c10
  try clear c18
  try clear c19
  try clear c27
  try clear c27b0
  try clear c27b1
  try clear c27b2
  try clear c34
  try clear c35
  try clear c40
  try clear c41
  try clear hcz11_0
  try clear hcz11_1
  try clear hcz11_2
  try clear hcz11_3
  try clear hcz11_4
  try clear hcz20_0
  try clear hcz20_1
  try clear hcz20_2
  try clear hcz20_3
  try clear hcz20_4
  try clear hcz26_0
  try clear hcz26_1
  try clear hcz26_2
  try clear hcz26_3
  try clear hcz26_4
  try clear hcz36_0
  try clear hcz36_1
  try clear hcz36_2
  try clear hcz36_3
  try clear hcz36_4
  try clear hcz41_0
  try clear hcz41_1
  try clear hcz41_2
  try clear hcz41_3
  try clear hcz41_4
  try clear hcz9_0
  try clear hcz9_1
  try clear hcz9_2
  try clear hcz9_3
  try clear hcz9_4
  try clear hfz11_0
  try clear hfz11_1
  try clear hfz11_2
  try clear hfz11_3
  try clear hfz11_4
  try clear hfz20_0
  try clear hfz20_1
  try clear hfz20_2
  try clear hfz20_3
  try clear hfz20_4
  try clear hfz26_0
  try clear hfz26_1
  try clear hfz26_2
  try clear hfz26_3
  try clear hfz26_4
  try clear hfz36_0
  try clear hfz36_1
  try clear hfz36_2
  try clear hfz36_3
  try clear hfz36_4
  try clear hfz41_0
  try clear hfz41_1
  try clear hfz41_2
  try clear hfz41_3
  try clear hfz41_4
  try clear hfz9_0
  try clear hfz9_1
  try clear hfz9_2
  try clear hfz9_3
  try clear hfz9_4
  obtain ⟨kq, x1001_13, x1002_13, x234001_13, x234002_13, HA, HJ13, BK229, BK233, HI0, HK, HB⟩ := hcut
  cases kq with
  | zero => exact absurd HA.out (by simp [spec_l5Right.j0])
  | succ kj13 =>
   have H := HA.out
   clear HA
   simp only [spec_l5Right.j0] at H
   replace H := Option.bind_eq_some_iff.mp H
   obtain ⟨⟨t255, t256, t257⟩, A420, H⟩ := H
   try dsimp only at H
   have A42 := aM A420
   clear A420
   have H' := aM H
   clear H
   go_wp2_with (first | ((with_reducible refine gate_callee (f := 41) rfl ?_); refine gL (some 31) Try.func41 #[.pointer (some ⟨g, 0, none⟩), .int .i64 30] ?_; (with_reducible refine (spec_l1Below.calls g s0_0 x1001_13 x1002_13 30 t255 t256 t257 w0 _ ?side1 ?side2 A42.out).mono ?_); (case side1 => exact IsS65.iI HI0); (case side2 => exact bB); rintro e w43 ⟨rfl, hi, hb, hk⟩; refine ⟨_, rfl, ?_⟩; have n_ := aI (aM (KeepBut.blk hk (g' := gb229) (o := .cells #[.int .i64 0, .int .i64 0, .int .i64 0, .int .i64 0, .slice none 0 0] 33 (0, 0)) (kP BK229) NB229_0.out (by simp))) (aI (aM (KeepBut.blk hk (g' := gb233) (o := .cells #[.int .i64 t230, .int .i64 x234001_13, .int .i64 x234002_13, .int .i64 t240, .slice none 0 0] 33 (0, 0)) (kP BK233) NB233_0.out (by simp))) (aI (aM (KeepBut.trans (bK HK) hk (.inl rfl))) (aI (aM (hb)) (aM (hi))))); clear BK229 BK233 HK HB HI0; obtain ⟨BK229, BK233, HK, HB, HI0⟩ := n_; (try clear hb hk hi)))
   go_loopg [5] kj13 (fun kq v5 w' => ∃ (x5_2 : Int) (x234004_2 : List Int) (u234004 : Value), v5 = .int .i64 x5_2 ∧ Aside0 (spec_l5Right.l0 kq t255 x5_2 s0_0 t256 t257 t230 x234001_13 x234002_13 t240 x234004_2 = some (r1, r2, r3, r4, r5, r6, r7)) ∧ Aside0 (kq ≤ kj13) ∧ Aside0 (Kd.R (Kd.int .i64) 3 w' w.heap.size (fun _ => True) u234004 x234004_2) ∧ Aside0 (w'.heap[gb229]? = some (.cells #[.int .i64 0, .int .i64 0, .int .i64 0, .int .i64 0, (.slice none 0 0)] 33 (0, 0))) ∧ Aside0 (w'.heap[gb233]? = some (.cells #[.int .i64 t230, .int .i64 x234001_13, .int .i64 x234002_13, .int .i64 t240, u234004] 33 (0, 0))) ∧ Aside0 (IsS65 w0 w' g s0_0 t256 t257) ∧ Aside0 (KeepBut w w' g none) ∧ Aside0 (Below w0.heap.size w0 w'))
   case atStart => exact ⟨(0), (([] : List Int)), (.slice none 0 0), (by first | rfl | (simp; done) | (simp [*]; done) | (simp; exact (by intro l_; cases l_ <;> rfl : ∀ l_ : List UInt8, l_.isEmpty = !(l_ != [])) _)), H', ⟨Nat.le_refl _⟩, ⟨by first | exact Kd.R_nil _ _ _ _ _ | exact Kd.N_nil _ _ _ _ _ | exact Kd.V_nil _ _ _ _ _ | exact Kd.Q_nil _ _ _ _ _ | exact Kd.S_nil _ _ _ _ _⟩, ⟨kP BK229⟩, ⟨kP BK233⟩, ⟨IsS65.iI HI0⟩, ⟨bK HK⟩, ⟨bB⟩⟩
   case round =>
    clear H'
    try clear c1
    try clear c2
    try clear p2
    try clear c3
    try clear c3b0
    try clear c3b1
    try clear c4
    try clear c7
    try clear c8
    try clear c10
    try clear c18
    try clear c19
    try clear c27
    try clear c27b0
    try clear c27b1
    try clear c27b2
    try clear c34
    try clear c35
    try clear c40
    try clear c41
    try clear hcz11_0
    try clear hcz11_1
    try clear hcz11_2
    try clear hcz11_3
    try clear hcz11_4
    try clear hcz20_0
    try clear hcz20_1
    try clear hcz20_2
    try clear hcz20_3
    try clear hcz20_4
    try clear hcz26_0
    try clear hcz26_1
    try clear hcz26_2
    try clear hcz26_3
    try clear hcz26_4
    try clear hcz36_0
    try clear hcz36_1
    try clear hcz36_2
    try clear hcz36_3
    try clear hcz36_4
    try clear hcz41_0
    try clear hcz41_1
    try clear hcz41_2
    try clear hcz41_3
    try clear hcz41_4
    try clear hcz9_0
    try clear hcz9_1
    try clear hcz9_2
    try clear hcz9_3
    try clear hcz9_4
    try clear hfz11_0
    try clear hfz11_1
    try clear hfz11_2
    try clear hfz11_3
    try clear hfz11_4
    try clear hfz20_0
    try clear hfz20_1
    try clear hfz20_2
    try clear hfz20_3
    try clear hfz20_4
    try clear hfz26_0
    try clear hfz26_1
    try clear hfz26_2
    try clear hfz26_3
    try clear hfz26_4
    try clear hfz36_0
    try clear hfz36_1
    try clear hfz36_2
    try clear hfz36_3
    try clear hfz36_4
    try clear hfz41_0
    try clear hfz41_1
    try clear hfz41_2
    try clear hfz41_3
    try clear hfz41_4
    try clear hfz9_0
    try clear hfz9_1
    try clear hfz9_2
    try clear hfz9_3
    try clear hfz9_4
    try clear p2
    obtain ⟨x5_2, x234004_2, u234004, rfl, HA, HK2, HO_234004, BK229, BK233, HI0, HK, HB⟩ := hrel
    cases gk with
    | zero => exact absurd HA.out (by simp [spec_l5Right.l0])
    | succ k2 =>
     have H := HA.out
     clear HA
     simp only [spec_l5Right.l0] at H
     replace H := Option.bind_eq_some_iff.mp H
     obtain ⟨t258, A440, H⟩ := H
     try dsimp only at H
     have A44 := aM A440
     clear A440
     by_cases c45 : x5_2 < t258
     ·rw [if_pos c45] at H
      have c45b0 : decide (x5_2 < t258) = true := decide_eq_true c45
      clear c45
      by_cases c46 : x234004_2.length < 17592186044416
      ·rw [if_pos c46] at H
       have LMc46 := aM c46
       clear c46
       obtain ⟨y259, hy259⟩ : ∃ y_ : List Int, y_ = (x234004_2 ++ [wrap64 (t255 + x5_2)]) := ⟨_, rfl⟩
       replace H : (spec_l5Right.l0 k2 t255 (wrap64 (x5_2 + 1)) s0_0 t256 t257 t230 x234001_13 x234002_13 t240 y259) = some (r1, r2, r3, r4, r5, r6, r7) := bQ hy259 H
       have Ny259 := aM hy259
       clear hy259
       have H' := aM H
       clear H
       have hnb47 := NB233_229.out
       have hnc47 := NB229_233.out
       have hnb48 := NB233_0.out
       have hnc48 := NB0_233.out
       have hcz49_0 := cZ0 BK233
       have hcz49_1 := cZ1 BK233
       have hcz49_2 : wr.cell? ⟨gb233, 2, none⟩ = some (.int .i64 x234002_13) := (blk_cell BK233.out 2).trans rfl
       have hcz49_3 : wr.cell? ⟨gb233, 3, none⟩ = some (.int .i64 t240) := (blk_cell BK233.out 3).trans rfl
       have hcz49_4 : wr.cell? ⟨gb233, 4, none⟩ = some (u234004) := (blk_cell BK233.out 4).trans rfl
       have hfz49_0 := fZ BK233 0
       have hfz49_1 := fZ BK233 1
       have hfz49_2 := fZ BK233 2
       have hfz49_3 := fZ BK233 3
       have hfz49_4 := fZ BK233 4
       go_wp2_with (first | ((with_reducible refine gate_callee (f := 43) rfl ?_); refine gL (some 35) Try.func43 #[.int .i64 t240] ?_; (with_reducible refine (spec_BlocksFor.calls t240 t258 _ A44.out).mono ?_); rintro e w' ⟨rfl, ⟨nd, rfl⟩⟩; refine ⟨_, rfl, ?_⟩; (try (rw [drewN_self wr]; generalize hq_ : World.drewN wr _ = wr; have n0_ : Aside0 (Kd.R (Kd.int .i64) 3 wr w.heap.size (fun _ => True) u234004 x234004_2) := ⟨by rw [← hq_]; exact (rP HO_234004.out)⟩; have n1_ : Aside0 (wr.heap[gb229]? = some (.cells #[.int .i64 0, .int .i64 0, .int .i64 0, .int .i64 0, .slice none 0 0] 33 (0, 0))) := ⟨by rw [← hq_]; exact (kP BK229)⟩; have n2_ : Aside0 (wr.heap[gb233]? = some (.cells #[.int .i64 t230, .int .i64 x234001_13, .int .i64 x234002_13, .int .i64 t240, u234004] 33 (0, 0))) := ⟨by rw [← hq_]; exact (kP BK233)⟩; have n3_ : Aside0 (IsS65 w0 wr g s0_0 t256 t257) := ⟨by rw [← hq_]; exact (IsS65.iI HI0)⟩; have n4_ : Aside0 (KeepBut w wr g none) := ⟨by rw [← hq_]; exact (bK HK)⟩; have n5_ : Aside0 (Below w0.heap.size w0 wr) := ⟨by rw [← hq_]; exact bB⟩; clear HO_234004 BK229 BK233 HI0 HK HB hq_; have HO_234004 := n0_; have BK229 := n1_; have BK233 := n2_; have HI0 := n3_; have HK := n4_; have HB := n5_; clear n0_ n1_ n2_ n3_ n4_ n5_)); have hcz50_0 := cZ0 BK233; have hcz50_1 := cZ1 BK233; have hcz50_2 : wr.cell? ⟨gb233, 2, none⟩ = some (.int .i64 x234002_13) := (blk_cell BK233.out 2).trans rfl; have hcz50_3 : wr.cell? ⟨gb233, 3, none⟩ = some (.int .i64 t240) := (blk_cell BK233.out 3).trans rfl; have hcz50_4 : wr.cell? ⟨gb233, 4, none⟩ = some (u234004) := (blk_cell BK233.out 4).trans rfl; have hfz50_0 := fZ BK233 0; have hfz50_1 := fZ BK233 1; have hfz50_2 := fZ BK233 2; have hfz50_3 := fZ BK233 3; have hfz50_4 := fZ BK233 4) | ((with_reducible refine gate_builtin (b := .append) (xs := #[.tmp 40, .tmp 44]) rfl ?_); at_builtin; refine Kd.R_append (Kd.int .i64) w.heap.size rfl (.tmp 40) (.tmp 44) 31 3 (.int .i64 0) 8 rfl Try.underlying31 info3 rfl (by decide) (by omega) u234004 x234004_2 (wrap64 (t255 + x5_2)) [.int .i64 (wrap64 (t255 + x5_2))] (fun _ => True) (fun _ => False) rfl rfl ?aP (fun _ hk => hk.elim) ?aF ?aO (Below.refl _ _) ?aS ?aL ?_; (case aP => exact rfl); (case aF => exact (fun _ _ => trivial)); (case aO => exact (rP HO_234004.out)); (case aS => exact (keep_size (w := w) (g := g) (row := none) (bK HK))); (case aL => have := LMc46.out; omega); intro v260 w51 ho hb hg hat; rw [← Ny259.out] at ho; have n_ := aI (aM (blk_grown (g := gb229) (o := .cells #[.int .i64 0, .int .i64 0, .int .i64 0, .int .i64 0, .slice none 0 0] 33 (0, 0)) (kP BK229) hg (Kd.R_ne HO_234004.out BK229.out (by decide)))) (aI (aM (blk_grown (g := gb233) (o := .cells #[.int .i64 t230, .int .i64 x234001_13, .int .i64 x234002_13, .int .i64 t240, u234004] 33 (0, 0)) (kP BK233) hg (Kd.R_ne HO_234004.out BK233.out (by decide)))) (aI (aM (IsS65.grown (IsS65.iI HI0) hg (IsS65.own_ne HI0.out HO_234004.out (by decide)))) (aI (aM (below_weaken bB HL.out hb)) (aI (aM (KeepBut.trans (bK HK) (KeepBut.of_grown hg g) (Kd.R_base2 HO_234004.out))) (aM (ho)))))); clear BK229 BK233 HI0 HB HK HO_234004; obtain ⟨BK229, BK233, HI0, HB, HK, HO261⟩ := n_; (try clear ho hb hg hat); obtain ⟨Ao52, co52, eo52⟩ := Kd.R_slice HO261.out; subst eo52; have hcz53_0 := cZ0 BK233; have hcz53_1 := cZ1 BK233; have hcz53_2 : w51.cell? ⟨gb233, 2, none⟩ = some (.int .i64 x234002_13) := (blk_cell BK233.out 2).trans rfl; have hcz53_3 : w51.cell? ⟨gb233, 3, none⟩ = some (.int .i64 t240) := (blk_cell BK233.out 3).trans rfl; have hcz53_4 : w51.cell? ⟨gb233, 4, none⟩ = some (u234004) := (blk_cell BK233.out 4).trans rfl; have hfz53_0 := fZ BK233 0; have hfz53_1 := fZ BK233 1; have hfz53_2 := fZ BK233 2; have hfz53_3 := fZ BK233 3; have hfz53_4 := fZ BK233 4))
       go_roundg k2
       case measure => have := HJ13.out; have := HK2.out; omega
       case rel => exact ⟨(wrap64 (x5_2 + 1)), (y259), (.slice Ao52 y259.length co52), (by first | rfl | (simp; done) | (simp [*]; done) | (simp; exact (by intro l_; cases l_ <;> rfl : ∀ l_ : List UInt8, l_.isEmpty = !(l_ != [])) _)), H', ⟨by have := HJ13.out; have := HK2.out; omega⟩, ⟨rP (Kd.R_mono (Kd.R_far (p := ⟨gb233, 4, none⟩) (Kd.R_types HO261.out BK233.out (by decide)) (fun _ hk => hk.2) (.slice Ao52 y259.length co52)) (fun _ hk => trivial))⟩, ⟨kP BK229⟩, ⟨by (with_reducible repeat (first | apply bN | apply bD | apply bA)); refine blk_put (cs := #[.int .i64 t230, .int .i64 x234001_13, .int .i64 x234002_13, .int .i64 t240, u234004]) ?_ 4 _ rfl; (with_reducible repeat (first | apply bN | apply bD | apply bA)); exact BK233.out⟩, ⟨IsS65.iI HI0⟩, ⟨bK HK⟩, ⟨bB⟩⟩
      ·rw [if_neg c46] at H
       exact absurd H (by simp)
     ·rw [if_neg c45] at H
      have c45b0 : decide (x5_2 < t258) = false := decide_eq_false c45
      clear c45
      simp only [Option.some.injEq, Prod.mk.injEq] at H
      obtain ⟨rfl, rfl, rfl, rfl, rfl, rfl, rfl⟩ := H
      have hnb54 := NB233_229.out
      have hnc54 := NB229_233.out
      have hnb55 := NB233_0.out
      have hnc55 := NB0_233.out
      have hcz56_0 := cZ0 BK233
      have hcz56_1 := cZ1 BK233
      have hcz56_2 : wr.cell? ⟨gb233, 2, none⟩ = some (.int .i64 x234002_13) := (blk_cell BK233.out 2).trans rfl
      have hcz56_3 : wr.cell? ⟨gb233, 3, none⟩ = some (.int .i64 t240) := (blk_cell BK233.out 3).trans rfl
      have hcz56_4 : wr.cell? ⟨gb233, 4, none⟩ = some (u234004) := (blk_cell BK233.out 4).trans rfl
      have hfz56_0 := fZ BK233 0
      have hfz56_1 := fZ BK233 1
      have hfz56_2 := fZ BK233 2
      have hfz56_3 := fZ BK233 3
      have hfz56_4 := fZ BK233 4
      go_wp2_with (first | ((with_reducible refine gate_callee (f := 43) rfl ?_); refine gL (some 35) Try.func43 #[.int .i64 t240] ?_; (with_reducible refine (spec_BlocksFor.calls t240 t258 _ A44.out).mono ?_); rintro e w' ⟨rfl, ⟨nd, rfl⟩⟩; refine ⟨_, rfl, ?_⟩; (try (rw [drewN_self wr]; generalize hq_ : World.drewN wr _ = wr; have n0_ : Aside0 (Kd.R (Kd.int .i64) 3 wr w.heap.size (fun _ => True) u234004 x234004_2) := ⟨by rw [← hq_]; exact (rP HO_234004.out)⟩; have n1_ : Aside0 (wr.heap[gb229]? = some (.cells #[.int .i64 0, .int .i64 0, .int .i64 0, .int .i64 0, .slice none 0 0] 33 (0, 0))) := ⟨by rw [← hq_]; exact (kP BK229)⟩; have n2_ : Aside0 (wr.heap[gb233]? = some (.cells #[.int .i64 t230, .int .i64 x234001_13, .int .i64 x234002_13, .int .i64 t240, u234004] 33 (0, 0))) := ⟨by rw [← hq_]; exact (kP BK233)⟩; have n3_ : Aside0 (IsS65 w0 wr g s0_0 t256 t257) := ⟨by rw [← hq_]; exact (IsS65.iI HI0)⟩; have n4_ : Aside0 (KeepBut w wr g none) := ⟨by rw [← hq_]; exact (bK HK)⟩; have n5_ : Aside0 (Below w0.heap.size w0 wr) := ⟨by rw [← hq_]; exact bB⟩; clear HO_234004 BK229 BK233 HI0 HK HB hq_; have HO_234004 := n0_; have BK229 := n1_; have BK233 := n2_; have HI0 := n3_; have HK := n4_; have HB := n5_; clear n0_ n1_ n2_ n3_ n4_ n5_)); have hcz57_0 := cZ0 BK233; have hcz57_1 := cZ1 BK233; have hcz57_2 : wr.cell? ⟨gb233, 2, none⟩ = some (.int .i64 x234002_13) := (blk_cell BK233.out 2).trans rfl; have hcz57_3 : wr.cell? ⟨gb233, 3, none⟩ = some (.int .i64 t240) := (blk_cell BK233.out 3).trans rfl; have hcz57_4 : wr.cell? ⟨gb233, 4, none⟩ = some (u234004) := (blk_cell BK233.out 4).trans rfl; have hfz57_0 := fZ BK233 0; have hfz57_1 := fZ BK233 1; have hfz57_2 := fZ BK233 2; have hfz57_3 := fZ BK233 3; have hfz57_4 := fZ BK233 4; have hnb58 := NB229_0.out; have hnc58 := NB0_229.out; have hcz59_0 := cZ0 BK229; have hcz59_1 := cZ1 BK229; have hcz59_2 : wr.cell? ⟨gb229, 2, none⟩ = some (.int .i64 0) := (blk_cell BK229.out 2).trans rfl; have hcz59_3 : wr.cell? ⟨gb229, 3, none⟩ = some (.int .i64 0) := (blk_cell BK229.out 3).trans rfl; have hcz59_4 : wr.cell? ⟨gb229, 4, none⟩ = some (.slice none 0 0) := (blk_cell BK229.out 4).trans rfl; have hfz59_0 := fZ BK229 0; have hfz59_1 := fZ BK229 1; have hfz59_2 := fZ BK229 2; have hfz59_3 := fZ BK229 3; have hfz59_4 := fZ BK229 4; obtain ⟨Ao60, co60, eo60⟩ := Kd.R_slice HO_234004.out; subst eo60))
      refine bodyPost_ret (results_cell_row rfl _ _ gb229 33 #[.int .i64 t230, .int .i64 x234001_13, .int .i64 x234002_13, .int .i64 t240, .slice Ao60 x234004_2.length co60] (0, 0) _ rfl (by (with_reducible repeat (first | apply bN | apply bD | apply bA)); refine blk_put (cs := #[.int .i64 t230, .int .i64 x234001_13, .int .i64 x234002_13, .int .i64 t240, .slice none 0 0]) ?_ 4 _ rfl; (with_reducible repeat (first | apply bN | apply bD | apply bA)); refine blk_put (cs := #[.int .i64 t230, .int .i64 x234001_13, .int .i64 x234002_13, .int .i64 0, .slice none 0 0]) ?_ 3 _ rfl; (with_reducible repeat (first | apply bN | apply bD | apply bA)); refine blk_put (cs := #[.int .i64 t230, .int .i64 x234001_13, .int .i64 0, .int .i64 0, .slice none 0 0]) ?_ 2 _ rfl; (with_reducible repeat (first | apply bN | apply bD | apply bA)); refine blk_put (cs := #[.int .i64 t230, .int .i64 0, .int .i64 0, .int .i64 0, .slice none 0 0]) ?_ 1 _ rfl; (with_reducible repeat (first | apply bN | apply bD | apply bA)); refine blk_put (cs := #[.int .i64 0, .int .i64 0, .int .i64 0, .int .i64 0, .slice none 0 0]) ?_ 0 _ rfl; (with_reducible repeat (first | apply bN | apply bD | apply bA)); exact BK229.out) Try.underlying33 rfl (by kernel_rfl)) rfl ?_
      exact ⟨_, eW, by (with_reducible repeat (first | apply Kd.R_alloc | apply Kd.R_drewN | apply Kd.R_drew)); exact Kd.R_mono (Kd.R_far (p := ⟨gb229, 4, none⟩) (Kd.R_far (p := ⟨gb229, 3, none⟩) (Kd.R_far (p := ⟨gb229, 2, none⟩) (Kd.R_far (p := ⟨gb229, 1, none⟩) (Kd.R_far (p := ⟨gb229, 0, none⟩) (Kd.R_types HO_234004.out BK229.out (by decide)) (fun _ hk => hk.2) (.int .i64 t230)) (fun _ hk => hk.2) (.int .i64 x234001_13)) (fun _ hk => hk.2) (.int .i64 x234002_13)) (fun _ hk => hk.2) (.int .i64 t240)) (fun _ hk => hk.2) (.slice Ao60 x234004_2.length co60)) (fun _ hk => trivial), IsS65.iI HI0, bB, bK HK⟩

/-! ### spec_l5Draw: function 36 -/
def spec_l5Draw.f (k : Nat) (s0_0 : List Int) (s0_1 : Int) (s0_2 : Int) : Option (Int × Int × Int × Int × List Int × Int × Int) := (spec_l5Right.f k s0_0 s0_1 s0_2).bind fun bt263 => ((spec_l1Below.f s0_0 bt263.2.2.2.2.2.1 bt263.2.2.2.2.2.2 14).bind fun bt273 => (if bt273.1 = 0 then ((spec_l1PickInt.f s0_0 bt273.2.1 bt273.2.2 (([(-1), 4, 2] : List Int))).bind fun bt279 => (some (bt279.1, bt263.2.1, bt263.2.2.1, bt263.2.2.2.1, bt263.2.2.2.2.1, bt279.2.1, bt279.2.2))) else (if bt273.1 = 1 then ((spec_l1PickInt.f s0_0 bt273.2.1 bt273.2.2 (([(-1), 1000001, 3] : List Int))).bind fun bt285 => (some (bt263.1, bt285.1, bt263.2.2.1, bt263.2.2.2.1, bt263.2.2.2.2.1, bt285.2.1, bt285.2.2))) else (if bt273.1 = 2 then ((spec_l1PickInt.f s0_0 bt273.2.1 bt273.2.2 (([(-1), 100001] : List Int))).bind fun bt291 => (some (bt263.1, bt263.2.1, bt291.1, bt263.2.2.2.1, bt263.2.2.2.2.1, bt291.2.1, bt291.2.2))) else (if bt273.1 = 3 then ((spec_l1PickInt.f s0_0 bt273.2.1 bt273.2.2 (([(-1), 81, wrap64 (bt263.2.2.2.1 + 16)] : List Int))).bind fun bt297 => (some (bt263.1, bt263.2.1, bt263.2.2.1, bt297.1, bt263.2.2.2.2.1, bt297.2.1, bt297.2.2))) else (if bt273.1 = 4 then ((spec_l1PickInt.f s0_0 bt273.2.1 bt273.2.2 (([0, 36, (-1)] : List Int))).bind fun bt303 => (if bt263.2.2.2.2.1.length < 17592186044416 then (some (bt263.1, bt263.2.1, bt263.2.2.1, bt263.2.2.2.1, (bt263.2.2.2.2.1 ++ [bt303.1]), bt303.2.1, bt303.2.2)) else (none))) else (if bt273.1 = 5 then (if (bt263.2.2.2.2.1.length : Int) > 1 then (if 1 < (bt263.2.2.2.2.1.length : Int) then (if 0 < (bt263.2.2.2.2.1.length : Int) then (some (bt263.1, bt263.2.1, bt263.2.2.1, bt263.2.2.2.1, (bt263.2.2.2.2.1.set (0 : Int).toNat (rd bt263.2.2.2.2.1 1)), bt273.2.1, bt273.2.2)) else (none)) else (none)) else (some (bt263.1, bt263.2.1, bt263.2.2.1, bt263.2.2.2.1, bt263.2.2.2.2.1, bt273.2.1, bt273.2.2))) else (some (bt263.1, bt263.2.1, bt263.2.2.1, bt263.2.2.2.1, bt263.2.2.2.2.1, bt273.2.1, bt273.2.2)))))))))
theorem spec_l5Draw.mono : ∀ a0 a1 a2 k, LeO (spec_l5Draw.f k a0 a1 a2) (spec_l5Draw.f (k + 1) a0 a1 a2) := by
 intro a0 a1 a2 k
 unfold spec_l5Draw.f
 have m0_ := @spec_l5Right.mono
 exact mM
def spec_l5Draw.T12 : Bool × List (List Nat × List Nat) := (true, [([], []), ([0], [0]), ([], []), ([], []), ([2, 3], [2, 3]), ([4], [4]), ([1, 5, 4], [1, 5]), ([0, 1, 2, 3, 4, 5, 6], []), ([7, 6, 6, 0, 1, 2, 3, 4, 5, 6], [6, 7])])
def spec_l5Draw.B12 : List Nat := [0, 1, 0, 0, 12, 28, 63, 127, 255]
theorem spec_l5Draw.tab12 : rtab .any (opsOf Try.f36 12) = spec_l5Draw.T12 := by kernel_rfl
theorem spec_l5Draw.bits12 : waitsOk spec_l5Draw.T12.2 spec_l5Draw.B12 = true := by kernel_rfl
def spec_l5Draw.T15 : Bool × List (List Nat × List Nat) := (true, [([], []), ([0], [0]), ([], []), ([2], [2]), ([3], [3]), ([4], [4]), ([1, 0, 1, 2, 3, 4, 5], [1]), ([6, 5, 0, 1, 2, 3, 4, 5], [5, 6])])
def spec_l5Draw.B15 : List Nat := [0, 1, 0, 4, 12, 28, 63, 127]
theorem spec_l5Draw.tab15 : rtab .any (opsOf Try.f36 15) = spec_l5Draw.T15 := by kernel_rfl
theorem spec_l5Draw.bits15 : waitsOk spec_l5Draw.T15.2 spec_l5Draw.B15 = true := by kernel_rfl
set_option maxHeartbeats 8000000 in
set_option maxRecDepth 100000 in
theorem spec_l5Draw.calls (k : Nat) (g : Nat) (s0_0 : List Int) (s0_1 : Int) (s0_2 : Int) (r1 : Int) (r2 : Int) (r3 : Int) (r4 : Int) (r5 : List Int) (r6 : Int) (r7 : Int) (w0 w : World) (hI : IsS65 w0 w g s0_0 s0_1 s0_2) (hB : Below w0.heap.size w0 w) (h : spec_l5Draw.f k s0_0 s0_1 s0_2 = some (r1, r2, r3, r4, r5, r6, r7)) :
  Calls Try.prog 36 #[.pointer (some ⟨g, 0, none⟩)] w fun e w' => ∃ v4_ : Value, e = .returned (.agg #[.int .i64 r1, .int .i64 r2, .int .i64 r3, .int .i64 r4, v4_]) ∧ Kd.R (Kd.int .i64) 3 w' w.heap.size (fun _ => True) v4_ r5 ∧ IsS65 w0 w' g s0_0 r6 r7 ∧ Below w0.heap.size w0 w' ∧ KeepBut w w' g none := by
 have hu33 := Try.underlying33
 have HI0 := aM hI
 have GEg_ := aM (IsS65.ge hI)
 have HK := aM (KeepBut.refl w g none)
 have HL := aM hB.size
 clear hI
 have HW0 := aM hB.size
 have HB := aM hB
 clear hB
 unfold spec_l5Draw.f at h
 have H := h
 clear h
 replace H := Option.bind_eq_some_iff.mp H
 obtain ⟨⟨t263, t264, t265, t266, t267, t270, t271⟩, A20, H⟩ := H
 try dsimp only at H
 have A2 := aM A20
 clear A20
 replace H := Option.bind_eq_some_iff.mp H
 obtain ⟨⟨t273, t274, t275⟩, A30, H⟩ := H
 try dsimp only at H
 have A3 := aM A30
 clear A30
 by_cases c4 : t273 = 0
 ·rw [if_pos c4] at H
  have c4b0 : (t273 == 0) = true := beq_iff_eq.mpr c4
  have c4b1 : (t273 != 0) = false := bne_eq_false_iff_eq.mpr c4
  clear c4
  obtain ⟨y276, hy276⟩ : ∃ y_ : List Int, y_ = (([(-1), 4, 2] : List Int)) := ⟨_, rfl⟩
  replace H : ((spec_l1PickInt.f s0_0 t274 t275 y276).bind fun bt279 => (some (bt279.1, t264, t265, t266, t267, bt279.2.1, bt279.2.2))) = some (r1, r2, r3, r4, r5, r6, r7) := bQ hy276 H
  have Ny276 := aM hy276
  clear hy276
  replace H := Option.bind_eq_some_iff.mp H
  obtain ⟨⟨t279, t280, t281⟩, A50, H⟩ := H
  try dsimp only at H
  have A5 := aM A50
  clear A50
  simp only [Option.some.injEq, Prod.mk.injEq] at H
  obtain ⟨rfl, rfl, rfl, rfl, rfl, rfl, rfl⟩ := H
  go_enter Try.func36, Try.ntmps36
  go_wp2_with (first | ((with_reducible refine gate_dst (N := 2) rfl ?_); refine bE 2 #[.int .i64 0, .int .i64 0, .int .i64 0, .int .i64 0, .slice none 0 0] 33 ?_; intro gb262 hg w6 hbox hb; have n_ := aI (aM (IsS65.below (IsS65.iI HI0) hb)) (aI (aM (KeepBut.trans (bK HK) (KeepBut.of_below hb g none) (.inl rfl))) (aI (sB HB hb) (aI (aM hbox) (aI (aM ((by rw [hg]; exact (keep_size (w := w) (g := g) (row := none) (bK HK)) : w.heap.size ≤ gb262))) (aI (aM ((Nat.le_trans HW0.out (by rw [hg]; exact (keep_size (w := w) (g := g) (row := none) (bK HK)) : w.heap.size ≤ gb262) : w0.heap.size ≤ gb262))) (aI (aM ((by rw [hg]; exact Nat.ne_of_lt (IsS65.lt (show IsS65 w0 _ g s0_0 s0_1 s0_2 from IsS65.iI HI0)) : g ≠ gb262))) (aM ((by rw [hg]; exact Nat.ne_of_gt (IsS65.lt (show IsS65 w0 _ g s0_0 s0_1 s0_2 from IsS65.iI HI0)) : gb262 ≠ g))))))))); clear HI0 HK HB; obtain ⟨HI0, HK, HB, BK262, GW262, GE262, NB0_262, NB262_0⟩ := n_; (try clear hb hbox hg)) | ((with_reducible refine gate_callee (f := 40) rfl ?_); refine gL (some 5) Try.func40 #[.pointer (some ⟨g, 0, none⟩)] ?_; (with_reducible refine (spec_l5Right.calls k g s0_0 s0_1 s0_2 t263 t264 t265 t266 t267 t270 t271 w0 _ ?side1 ?side2 A2.out).mono ?_); (case side1 => exact IsS65.iI HI0); (case side2 => exact bB); rintro e w7 ⟨v268, rfl, ho0, hi, hb, hk⟩; refine ⟨_, rfl, ?_⟩; have n_ := aI (aM (KeepBut.blk hk (g' := gb262) (o := .cells #[.int .i64 0, .int .i64 0, .int .i64 0, .int .i64 0, .slice none 0 0] 33 (0, 0)) (kP BK262) NB262_0.out (by simp))) (aI (aM (Kd.R_lower ho0 (keep_size (w := w) (g := g) (row := none) (bK HK)))) (aI (aM (KeepBut.trans (bK HK) hk (.inl rfl))) (aI (aM (hb)) (aM (hi))))); clear BK262 HK HB HI0; obtain ⟨BK262, HO269, HK, HB, HI0⟩ := n_; (try clear hb hk hi ho0)) | ((with_reducible refine gate_dst (N := 3) rfl ?_); refine bE 3 #[.int .i64 0, .int .i64 0, .int .i64 0, .int .i64 0, .slice none 0 0] 33 ?_; intro gb272 hg w8 hbox hb; have n_ := aI (rB HO269 hb) (aI (aM (IsS65.below (IsS65.iI HI0) hb)) (aI (kB BK262 hb) (aI (aM (KeepBut.trans (bK HK) (KeepBut.of_below hb g none) (.inl rfl))) (aI (sB HB hb) (aI (aM hbox) (aI (aM ((by rw [hg]; exact (keep_size (w := w) (g := g) (row := none) (bK HK)) : w.heap.size ≤ gb272))) (aI (aM ((Nat.le_trans HW0.out (by rw [hg]; exact (keep_size (w := w) (g := g) (row := none) (bK HK)) : w.heap.size ≤ gb272) : w0.heap.size ≤ gb272))) (aI (nL BK262 hg) (aI (nG BK262 hg) (aI (aM ((by rw [hg]; exact Nat.ne_of_lt (IsS65.lt (show IsS65 w0 _ g s0_0 t270 t271 from IsS65.iI HI0)) : g ≠ gb272))) (aM ((by rw [hg]; exact Nat.ne_of_gt (IsS65.lt (show IsS65 w0 _ g s0_0 t270 t271 from IsS65.iI HI0)) : gb272 ≠ g))))))))))))); clear HO269 HI0 BK262 HK HB; obtain ⟨HO269, HI0, BK262, HK, HB, BK272, GW272, GE272, NB262_272, NB272_262, NB0_272, NB272_0⟩ := n_; (try clear hb hbox hg); have hnb9 := NB272_262.out; have hnc9 := NB262_272.out; have hnb10 := NB272_0.out; have hnc10 := NB0_272.out; have hcz11_0 := cZ0 BK272; have hcz11_1 := cZ1 BK272; have hcz11_2 : w8.cell? ⟨gb272, 2, none⟩ = some (.int .i64 0) := (blk_cell BK272.out 2).trans rfl; have hcz11_3 : w8.cell? ⟨gb272, 3, none⟩ = some (.int .i64 0) := (blk_cell BK272.out 3).trans rfl; have hcz11_4 : w8.cell? ⟨gb272, 4, none⟩ = some (.slice none 0 0) := (blk_cell BK272.out 4).trans rfl; have hfz11_0 := fZ BK272 0; have hfz11_1 := fZ BK272 1; have hfz11_2 := fZ BK272 2; have hfz11_3 := fZ BK272 3; have hfz11_4 := fZ BK272 4; obtain ⟨Ao12, co12, eo12⟩ := Kd.R_slice HO269.out; subst eo12) | ((with_reducible refine gate_callee (f := 41) rfl ?_); refine gL (some 7) Try.func41 #[.pointer (some ⟨g, 0, none⟩), .int .i64 14] ?_; (with_reducible refine (spec_l1Below.calls g s0_0 t270 t271 14 t273 t274 t275 w0 _ ?side1 ?side2 A3.out).mono ?_); (case side1 => exact IsS65.iI HI0); (case side2 => exact bB); rintro e w13 ⟨rfl, hi, hb, hk⟩; refine ⟨_, rfl, ?_⟩; have n_ := aI (aM (KeepBut.blk hk (g' := gb262) (o := .cells #[.int .i64 0, .int .i64 0, .int .i64 0, .int .i64 0, .slice none 0 0] 33 (0, 0)) (kP BK262) NB262_0.out (by simp))) (aI (aM (Kd.R_mono (Kd.R_keep (IsS65.apart (show IsS65 w0 _ g s0_0 t270 t271 from IsS65.iI HI0) (rP (Kd.R_mono (Kd.R_far (p := ⟨gb272, 4, none⟩) (Kd.R_far (p := ⟨gb272, 3, none⟩) (Kd.R_far (p := ⟨gb272, 2, none⟩) (Kd.R_far (p := ⟨gb272, 1, none⟩) (Kd.R_far (p := ⟨gb272, 0, none⟩) (Kd.R_types HO269.out BK272.out (by decide)) (fun _ hk => hk.2) (.int .i64 t263)) (fun _ hk => hk.2) (.int .i64 t264)) (fun _ hk => hk.2) (.int .i64 t265)) (fun _ hk => hk.2) (.int .i64 t266)) (fun _ hk => hk.2) (.slice Ao12 t267.length co12)) (fun _ h_ => h_.1))) (by decide)) hk (fun _ h => h.2)) (fun _ h => h.1))) (aI (aM (KeepBut.blk hk (g' := gb272) (o := .cells #[.int .i64 t263, .int .i64 t264, .int .i64 t265, .int .i64 t266, .slice Ao12 t267.length co12] 33 (0, 0)) (by (with_reducible repeat (first | apply bN | apply bD | apply bA)); refine blk_put (cs := #[.int .i64 t263, .int .i64 t264, .int .i64 t265, .int .i64 t266, .slice none 0 0]) ?_ 4 _ rfl; (with_reducible repeat (first | apply bN | apply bD | apply bA)); refine blk_put (cs := #[.int .i64 t263, .int .i64 t264, .int .i64 t265, .int .i64 0, .slice none 0 0]) ?_ 3 _ rfl; (with_reducible repeat (first | apply bN | apply bD | apply bA)); refine blk_put (cs := #[.int .i64 t263, .int .i64 t264, .int .i64 0, .int .i64 0, .slice none 0 0]) ?_ 2 _ rfl; (with_reducible repeat (first | apply bN | apply bD | apply bA)); refine blk_put (cs := #[.int .i64 t263, .int .i64 0, .int .i64 0, .int .i64 0, .slice none 0 0]) ?_ 1 _ rfl; (with_reducible repeat (first | apply bN | apply bD | apply bA)); refine blk_put (cs := #[.int .i64 0, .int .i64 0, .int .i64 0, .int .i64 0, .slice none 0 0]) ?_ 0 _ rfl; (with_reducible repeat (first | apply bN | apply bD | apply bA)); exact BK272.out) NB272_0.out (by simp))) (aI (aM (KeepBut.trans (bK HK) hk (.inl rfl))) (aI (aM (hb)) (aM (hi)))))); clear BK262 HO269 BK272 HK HB HI0; obtain ⟨BK262, HO269, BK272, HK, HB, HI0⟩ := n_; (try clear hb hk hi)) | ((with_reducible refine gate_dst (N := 11) rfl ?_); refine Kd.R_lit (Kd.int .i64) _ 3 ?hg (N := 11) ?hd (xs := ([(-1), 4, 2] : List Int)) (inner := [.int .i64 (-1), .int .i64 4, .int .i64 2]) (ok := fun _ => True) (okp := fun _ => True) ?hr ?hp (fun _ hk => hk) trivial (Below.refl _ _) (Nat.le_refl _) (by simp) ?_; (case hd => rfl); (case hg => rfl); (case hr => first | (go_simp; done) | (go_simp; rfl)); (case hp => exact (Reps.one (show Kd.M (Kd.int .i64) _ _ _ (-1) [.int .i64 (-1)] from rfl) (Reps.one (show Kd.M (Kd.int .i64) _ _ _ 4 [.int .i64 4] from rfl) (Reps.one (show Kd.M (Kd.int .i64) _ _ _ 2 [.int .i64 2] from rfl) (Reps.none _ _))))); intro v277 w14 ho15 hb hg_ hnew_; clear hg_ hnew_; (first | rw [← Ny276.out] at ho15 | (simp only [Int.reduceToNat] at ho15; rw [← Ny276.out] at ho15)); have n_ := aI (eR HO269 ho15 hb) (aI (aM (Kd.R_lower (Kd.R_new' ho15 (rL HO269)) (keep_size (w := w) (g := g) (row := none) (bK HK)))) (aI (aM (IsS65.below (IsS65.iI HI0) hb)) (aI (kB BK262 hb) (aI (kB BK272 hb) (aI (aM (KeepBut.trans (bK HK) (KeepBut.of_below hb g none) (.inl rfl))) (sB HB hb)))))); clear HO269 HI0 BK262 BK272 HK HB; obtain ⟨HO269, HO278, HI0, BK262, BK272, HK, HB⟩ := n_; (try clear hb ho15); obtain ⟨Ao16, co16, eo16⟩ := Kd.R_slice HO278.out; subst eo16) | ((with_reducible refine gate_callee (f := 49) rfl ?_); refine gL (some 12) Try.func49 #[.pointer (some ⟨g, 0, none⟩), .slice Ao16 y276.length co16] ?_; (with_reducible refine (spec_l1PickInt.calls g s0_0 t274 t275 _ _ y276 t279 t280 t281 w0 _ ?side1 ?side2 ?side3 ?side4 ?side5 A5.out).mono ?_); (case side1 => exact IsS65.iI HI0); (case side2 => exact bB); (case side3 => exact cR HO278); (case side4 => exact (Kd.R_reads' HO278.out).2.1); (case side5 => exact far_slice (IsS65.own_ne HI0.out HO278.out (by decide))); rintro e w17 ⟨rfl, hi, hb, hk⟩; refine ⟨_, rfl, ?_⟩; have n_ := aI (aM (KeepBut.blk hk (g' := gb262) (o := .cells #[.int .i64 0, .int .i64 0, .int .i64 0, .int .i64 0, .slice none 0 0] 33 (0, 0)) (kP BK262) NB262_0.out (by simp))) (aI (aM (Kd.R_mono (Kd.R_keep (IsS65.apart (show IsS65 w0 _ g s0_0 t274 t275 from IsS65.iI HI0) (rP HO269.out) (by decide)) hk (fun _ h => h.2)) (fun _ h => h.1))) (aI (aM (KeepBut.blk hk (g' := gb272) (o := .cells #[.int .i64 t263, .int .i64 t264, .int .i64 t265, .int .i64 t266, .slice Ao12 t267.length co12] 33 (0, 0)) (kP BK272) NB272_0.out (by simp))) (aI (aM (Kd.R_mono (Kd.R_keep (IsS65.apart (show IsS65 w0 _ g s0_0 t274 t275 from IsS65.iI HI0) (rP HO278.out) (by decide)) hk (fun _ h => h.2)) (fun _ h => h.1))) (aI (aM (KeepBut.trans (bK HK) hk (.inl rfl))) (aI (aM (hb)) (aM (hi))))))); clear BK262 HO269 BK272 HO278 HK HB HI0; obtain ⟨BK262, HO269, BK272, HO278, HK, HB, HI0⟩ := n_; (try clear hb hk hi); have hcz18_0 := cZ0 BK272; have hcz18_1 := cZ1 BK272; have hcz18_2 : w17.cell? ⟨gb272, 2, none⟩ = some (.int .i64 t265) := (blk_cell BK272.out 2).trans rfl; have hcz18_3 : w17.cell? ⟨gb272, 3, none⟩ = some (.int .i64 t266) := (blk_cell BK272.out 3).trans rfl; have hcz18_4 : w17.cell? ⟨gb272, 4, none⟩ = some (.slice Ao12 t267.length co12) := (blk_cell BK272.out 4).trans rfl; have hfz18_0 := fZ BK272 0; have hfz18_1 := fZ BK272 1; have hfz18_2 := fZ BK272 2; have hfz18_3 := fZ BK272 3; have hfz18_4 := fZ BK272 4; have hnb19 := NB262_0.out; have hnc19 := NB0_262.out; have hcz20_0 := cZ0 BK262; have hcz20_1 := cZ1 BK262; have hcz20_2 : w17.cell? ⟨gb262, 2, none⟩ = some (.int .i64 0) := (blk_cell BK262.out 2).trans rfl; have hcz20_3 : w17.cell? ⟨gb262, 3, none⟩ = some (.int .i64 0) := (blk_cell BK262.out 3).trans rfl; have hcz20_4 : w17.cell? ⟨gb262, 4, none⟩ = some (.slice none 0 0) := (blk_cell BK262.out 4).trans rfl; have hfz20_0 := fZ BK262 0; have hfz20_1 := fZ BK262 1; have hfz20_2 := fZ BK262 2; have hfz20_3 := fZ BK262 3; have hfz20_4 := fZ BK262 4))
  refine bodyPost_ret (results_cell_row rfl _ _ gb262 33 #[.int .i64 t279, .int .i64 t264, .int .i64 t265, .int .i64 t266, .slice Ao12 t267.length co12] (0, 0) _ rfl (by (with_reducible repeat (first | apply bN | apply bD | apply bA)); refine blk_put (cs := #[.int .i64 t279, .int .i64 t264, .int .i64 t265, .int .i64 t266, .slice none 0 0]) ?_ 4 _ rfl; (with_reducible repeat (first | apply bN | apply bD | apply bA)); refine blk_put (cs := #[.int .i64 t279, .int .i64 t264, .int .i64 t265, .int .i64 0, .slice none 0 0]) ?_ 3 _ rfl; (with_reducible repeat (first | apply bN | apply bD | apply bA)); refine blk_put (cs := #[.int .i64 t279, .int .i64 t264, .int .i64 0, .int .i64 0, .slice none 0 0]) ?_ 2 _ rfl; (with_reducible repeat (first | apply bN | apply bD | apply bA)); refine blk_put (cs := #[.int .i64 t279, .int .i64 0, .int .i64 0, .int .i64 0, .slice none 0 0]) ?_ 1 _ rfl; (with_reducible repeat (first | apply bN | apply bD | apply bA)); refine blk_put (cs := #[.int .i64 0, .int .i64 0, .int .i64 0, .int .i64 0, .slice none 0 0]) ?_ 0 _ rfl; (with_reducible repeat (first | apply bN | apply bD | apply bA)); refine blk_far ?_ NB262_272.out _; (with_reducible repeat (first | apply bN | apply bD | apply bA)); exact BK262.out) Try.underlying33 rfl (by kernel_rfl)) rfl ?_
  exact ⟨_, eW, by (with_reducible repeat (first | apply Kd.R_alloc | apply Kd.R_drewN | apply Kd.R_drew)); exact Kd.R_mono (Kd.R_far (p := ⟨gb262, 4, none⟩) (Kd.R_far (p := ⟨gb262, 3, none⟩) (Kd.R_far (p := ⟨gb262, 2, none⟩) (Kd.R_far (p := ⟨gb262, 1, none⟩) (Kd.R_far (p := ⟨gb262, 0, none⟩) (Kd.R_far (p := ⟨gb272, 0, none⟩) (Kd.R_types (Kd.R_types HO269.out BK272.out (by decide)) BK262.out (by decide)) (fun _ hk => hk.1.2) (.int .i64 t279)) (fun _ hk => hk.2) (.int .i64 t279)) (fun _ hk => hk.2) (.int .i64 t264)) (fun _ hk => hk.2) (.int .i64 t265)) (fun _ hk => hk.2) (.int .i64 t266)) (fun _ hk => hk.2) (.slice Ao12 t267.length co12)) (fun _ hk => trivial), IsS65.iI HI0, bB, bK HK⟩
 rw [if_neg c4] at H
 have c4b0 : (t273 == 0) = false := beq_eq_false_iff_ne.mpr c4
 have c4b1 : (t273 != 0) = true := bne_iff_ne.mpr c4
 by_cases c21 : t273 = 1
 ·rw [if_pos c21] at H
  have c21b0 : (t273 == 1) = true := beq_iff_eq.mpr c21
  have c21b1 : (t273 != 1) = false := bne_eq_false_iff_eq.mpr c21
  clear c21
  obtain ⟨y282, hy282⟩ : ∃ y_ : List Int, y_ = (([(-1), 1000001, 3] : List Int)) := ⟨_, rfl⟩
  replace H : ((spec_l1PickInt.f s0_0 t274 t275 y282).bind fun bt285 => (some (t263, bt285.1, t265, t266, t267, bt285.2.1, bt285.2.2))) = some (r1, r2, r3, r4, r5, r6, r7) := bQ hy282 H
  have Ny282 := aM hy282
  clear hy282
  replace H := Option.bind_eq_some_iff.mp H
  obtain ⟨⟨t285, t286, t287⟩, A220, H⟩ := H
  try dsimp only at H
  have A22 := aM A220
  clear A220
  simp only [Option.some.injEq, Prod.mk.injEq] at H
  obtain ⟨rfl, rfl, rfl, rfl, rfl, rfl, rfl⟩ := H
  go_enter Try.func36, Try.ntmps36
  go_wp2_with (first | ((with_reducible refine gate_dst (N := 2) rfl ?_); refine bE 2 #[.int .i64 0, .int .i64 0, .int .i64 0, .int .i64 0, .slice none 0 0] 33 ?_; intro gb262 hg w23 hbox hb; have n_ := aI (aM (IsS65.below (IsS65.iI HI0) hb)) (aI (aM (KeepBut.trans (bK HK) (KeepBut.of_below hb g none) (.inl rfl))) (aI (sB HB hb) (aI (aM hbox) (aI (aM ((by rw [hg]; exact (keep_size (w := w) (g := g) (row := none) (bK HK)) : w.heap.size ≤ gb262))) (aI (aM ((Nat.le_trans HW0.out (by rw [hg]; exact (keep_size (w := w) (g := g) (row := none) (bK HK)) : w.heap.size ≤ gb262) : w0.heap.size ≤ gb262))) (aI (aM ((by rw [hg]; exact Nat.ne_of_lt (IsS65.lt (show IsS65 w0 _ g s0_0 s0_1 s0_2 from IsS65.iI HI0)) : g ≠ gb262))) (aM ((by rw [hg]; exact Nat.ne_of_gt (IsS65.lt (show IsS65 w0 _ g s0_0 s0_1 s0_2 from IsS65.iI HI0)) : gb262 ≠ g))))))))); clear HI0 HK HB; obtain ⟨HI0, HK, HB, BK262, GW262, GE262, NB0_262, NB262_0⟩ := n_; (try clear hb hbox hg)) | ((with_reducible refine gate_callee (f := 40) rfl ?_); refine gL (some 5) Try.func40 #[.pointer (some ⟨g, 0, none⟩)] ?_; (with_reducible refine (spec_l5Right.calls k g s0_0 s0_1 s0_2 t263 t264 t265 t266 t267 t270 t271 w0 _ ?side1 ?side2 A2.out).mono ?_); (case side1 => exact IsS65.iI HI0); (case side2 => exact bB); rintro e w24 ⟨v268, rfl, ho0, hi, hb, hk⟩; refine ⟨_, rfl, ?_⟩; have n_ := aI (aM (KeepBut.blk hk (g' := gb262) (o := .cells #[.int .i64 0, .int .i64 0, .int .i64 0, .int .i64 0, .slice none 0 0] 33 (0, 0)) (kP BK262) NB262_0.out (by simp))) (aI (aM (Kd.R_lower ho0 (keep_size (w := w) (g := g) (row := none) (bK HK)))) (aI (aM (KeepBut.trans (bK HK) hk (.inl rfl))) (aI (aM (hb)) (aM (hi))))); clear BK262 HK HB HI0; obtain ⟨BK262, HO269, HK, HB, HI0⟩ := n_; (try clear hb hk hi ho0)) | ((with_reducible refine gate_dst (N := 3) rfl ?_); refine bE 3 #[.int .i64 0, .int .i64 0, .int .i64 0, .int .i64 0, .slice none 0 0] 33 ?_; intro gb272 hg w25 hbox hb; have n_ := aI (rB HO269 hb) (aI (aM (IsS65.below (IsS65.iI HI0) hb)) (aI (kB BK262 hb) (aI (aM (KeepBut.trans (bK HK) (KeepBut.of_below hb g none) (.inl rfl))) (aI (sB HB hb) (aI (aM hbox) (aI (aM ((by rw [hg]; exact (keep_size (w := w) (g := g) (row := none) (bK HK)) : w.heap.size ≤ gb272))) (aI (aM ((Nat.le_trans HW0.out (by rw [hg]; exact (keep_size (w := w) (g := g) (row := none) (bK HK)) : w.heap.size ≤ gb272) : w0.heap.size ≤ gb272))) (aI (nL BK262 hg) (aI (nG BK262 hg) (aI (aM ((by rw [hg]; exact Nat.ne_of_lt (IsS65.lt (show IsS65 w0 _ g s0_0 t270 t271 from IsS65.iI HI0)) : g ≠ gb272))) (aM ((by rw [hg]; exact Nat.ne_of_gt (IsS65.lt (show IsS65 w0 _ g s0_0 t270 t271 from IsS65.iI HI0)) : gb272 ≠ g))))))))))))); clear HO269 HI0 BK262 HK HB; obtain ⟨HO269, HI0, BK262, HK, HB, BK272, GW272, GE272, NB262_272, NB272_262, NB0_272, NB272_0⟩ := n_; (try clear hb hbox hg); have hnb26 := NB272_262.out; have hnc26 := NB262_272.out; have hnb27 := NB272_0.out; have hnc27 := NB0_272.out; have hcz28_0 := cZ0 BK272; have hcz28_1 := cZ1 BK272; have hcz28_2 : w25.cell? ⟨gb272, 2, none⟩ = some (.int .i64 0) := (blk_cell BK272.out 2).trans rfl; have hcz28_3 : w25.cell? ⟨gb272, 3, none⟩ = some (.int .i64 0) := (blk_cell BK272.out 3).trans rfl; have hcz28_4 : w25.cell? ⟨gb272, 4, none⟩ = some (.slice none 0 0) := (blk_cell BK272.out 4).trans rfl; have hfz28_0 := fZ BK272 0; have hfz28_1 := fZ BK272 1; have hfz28_2 := fZ BK272 2; have hfz28_3 := fZ BK272 3; have hfz28_4 := fZ BK272 4; obtain ⟨Ao29, co29, eo29⟩ := Kd.R_slice HO269.out; subst eo29) | ((with_reducible refine gate_callee (f := 41) rfl ?_); refine gL (some 7) Try.func41 #[.pointer (some ⟨g, 0, none⟩), .int .i64 14] ?_; (with_reducible refine (spec_l1Below.calls g s0_0 t270 t271 14 t273 t274 t275 w0 _ ?side1 ?side2 A3.out).mono ?_); (case side1 => exact IsS65.iI HI0); (case side2 => exact bB); rintro e w30 ⟨rfl, hi, hb, hk⟩; refine ⟨_, rfl, ?_⟩; have n_ := aI (aM (KeepBut.blk hk (g' := gb262) (o := .cells #[.int .i64 0, .int .i64 0, .int .i64 0, .int .i64 0, .slice none 0 0] 33 (0, 0)) (kP BK262) NB262_0.out (by simp))) (aI (aM (Kd.R_mono (Kd.R_keep (IsS65.apart (show IsS65 w0 _ g s0_0 t270 t271 from IsS65.iI HI0) (rP (Kd.R_mono (Kd.R_far (p := ⟨gb272, 4, none⟩) (Kd.R_far (p := ⟨gb272, 3, none⟩) (Kd.R_far (p := ⟨gb272, 2, none⟩) (Kd.R_far (p := ⟨gb272, 1, none⟩) (Kd.R_far (p := ⟨gb272, 0, none⟩) (Kd.R_types HO269.out BK272.out (by decide)) (fun _ hk => hk.2) (.int .i64 t263)) (fun _ hk => hk.2) (.int .i64 t264)) (fun _ hk => hk.2) (.int .i64 t265)) (fun _ hk => hk.2) (.int .i64 t266)) (fun _ hk => hk.2) (.slice Ao29 t267.length co29)) (fun _ h_ => h_.1))) (by decide)) hk (fun _ h => h.2)) (fun _ h => h.1))) (aI (aM (KeepBut.blk hk (g' := gb272) (o := .cells #[.int .i64 t263, .int .i64 t264, .int .i64 t265, .int .i64 t266, .slice Ao29 t267.length co29] 33 (0, 0)) (by (with_reducible repeat (first | apply bN | apply bD | apply bA)); refine blk_put (cs := #[.int .i64 t263, .int .i64 t264, .int .i64 t265, .int .i64 t266, .slice none 0 0]) ?_ 4 _ rfl; (with_reducible repeat (first | apply bN | apply bD | apply bA)); refine blk_put (cs := #[.int .i64 t263, .int .i64 t264, .int .i64 t265, .int .i64 0, .slice none 0 0]) ?_ 3 _ rfl; (with_reducible repeat (first | apply bN | apply bD | apply bA)); refine blk_put (cs := #[.int .i64 t263, .int .i64 t264, .int .i64 0, .int .i64 0, .slice none 0 0]) ?_ 2 _ rfl; (with_reducible repeat (first | apply bN | apply bD | apply bA)); refine blk_put (cs := #[.int .i64 t263, .int .i64 0, .int .i64 0, .int .i64 0, .slice none 0 0]) ?_ 1 _ rfl; (with_reducible repeat (first | apply bN | apply bD | apply bA)); refine blk_put (cs := #[.int .i64 0, .int .i64 0, .int .i64 0, .int .i64 0, .slice none 0 0]) ?_ 0 _ rfl; (with_reducible repeat (first | apply bN | apply bD | apply bA)); exact BK272.out) NB272_0.out (by simp))) (aI (aM (KeepBut.trans (bK HK) hk (.inl rfl))) (aI (aM (hb)) (aM (hi)))))); clear BK262 HO269 BK272 HK HB HI0; obtain ⟨BK262, HO269, BK272, HK, HB, HI0⟩ := n_; (try clear hb hk hi)) | ((with_reducible refine gate_dst (N := 17) rfl ?_); refine Kd.R_lit (Kd.int .i64) _ 3 ?hg (N := 17) ?hd (xs := ([(-1), 1000001, 3] : List Int)) (inner := [.int .i64 (-1), .int .i64 1000001, .int .i64 3]) (ok := fun _ => True) (okp := fun _ => True) ?hr ?hp (fun _ hk => hk) trivial (Below.refl _ _) (Nat.le_refl _) (by simp) ?_; (case hd => rfl); (case hg => rfl); (case hr => first | (go_simp; done) | (go_simp; rfl)); (case hp => exact (Reps.one (show Kd.M (Kd.int .i64) _ _ _ (-1) [.int .i64 (-1)] from rfl) (Reps.one (show Kd.M (Kd.int .i64) _ _ _ 1000001 [.int .i64 1000001] from rfl) (Reps.one (show Kd.M (Kd.int .i64) _ _ _ 3 [.int .i64 3] from rfl) (Reps.none _ _))))); intro v283 w31 ho32 hb hg_ hnew_; clear hg_ hnew_; (first | rw [← Ny282.out] at ho32 | (simp only [Int.reduceToNat] at ho32; rw [← Ny282.out] at ho32)); have n_ := aI (eR HO269 ho32 hb) (aI (aM (Kd.R_lower (Kd.R_new' ho32 (rL HO269)) (keep_size (w := w) (g := g) (row := none) (bK HK)))) (aI (aM (IsS65.below (IsS65.iI HI0) hb)) (aI (kB BK262 hb) (aI (kB BK272 hb) (aI (aM (KeepBut.trans (bK HK) (KeepBut.of_below hb g none) (.inl rfl))) (sB HB hb)))))); clear HO269 HI0 BK262 BK272 HK HB; obtain ⟨HO269, HO284, HI0, BK262, BK272, HK, HB⟩ := n_; (try clear hb ho32); obtain ⟨Ao33, co33, eo33⟩ := Kd.R_slice HO284.out; subst eo33) | ((with_reducible refine gate_callee (f := 49) rfl ?_); refine gL (some 18) Try.func49 #[.pointer (some ⟨g, 0, none⟩), .slice Ao33 y282.length co33] ?_; (with_reducible refine (spec_l1PickInt.calls g s0_0 t274 t275 _ _ y282 t285 t286 t287 w0 _ ?side1 ?side2 ?side3 ?side4 ?side5 A22.out).mono ?_); (case side1 => exact IsS65.iI HI0); (case side2 => exact bB); (case side3 => exact cR HO284); (case side4 => exact (Kd.R_reads' HO284.out).2.1); (case side5 => exact far_slice (IsS65.own_ne HI0.out HO284.out (by decide))); rintro e w34 ⟨rfl, hi, hb, hk⟩; refine ⟨_, rfl, ?_⟩; have n_ := aI (aM (KeepBut.blk hk (g' := gb262) (o := .cells #[.int .i64 0, .int .i64 0, .int .i64 0, .int .i64 0, .slice none 0 0] 33 (0, 0)) (kP BK262) NB262_0.out (by simp))) (aI (aM (Kd.R_mono (Kd.R_keep (IsS65.apart (show IsS65 w0 _ g s0_0 t274 t275 from IsS65.iI HI0) (rP HO269.out) (by decide)) hk (fun _ h => h.2)) (fun _ h => h.1))) (aI (aM (KeepBut.blk hk (g' := gb272) (o := .cells #[.int .i64 t263, .int .i64 t264, .int .i64 t265, .int .i64 t266, .slice Ao29 t267.length co29] 33 (0, 0)) (kP BK272) NB272_0.out (by simp))) (aI (aM (Kd.R_mono (Kd.R_keep (IsS65.apart (show IsS65 w0 _ g s0_0 t274 t275 from IsS65.iI HI0) (rP HO284.out) (by decide)) hk (fun _ h => h.2)) (fun _ h => h.1))) (aI (aM (KeepBut.trans (bK HK) hk (.inl rfl))) (aI (aM (hb)) (aM (hi))))))); clear BK262 HO269 BK272 HO284 HK HB HI0; obtain ⟨BK262, HO269, BK272, HO284, HK, HB, HI0⟩ := n_; (try clear hb hk hi); have hcz35_0 := cZ0 BK272; have hcz35_1 := cZ1 BK272; have hcz35_2 : w34.cell? ⟨gb272, 2, none⟩ = some (.int .i64 t265) := (blk_cell BK272.out 2).trans rfl; have hcz35_3 : w34.cell? ⟨gb272, 3, none⟩ = some (.int .i64 t266) := (blk_cell BK272.out 3).trans rfl; have hcz35_4 : w34.cell? ⟨gb272, 4, none⟩ = some (.slice Ao29 t267.length co29) := (blk_cell BK272.out 4).trans rfl; have hfz35_0 := fZ BK272 0; have hfz35_1 := fZ BK272 1; have hfz35_2 := fZ BK272 2; have hfz35_3 := fZ BK272 3; have hfz35_4 := fZ BK272 4; have hnb36 := NB262_0.out; have hnc36 := NB0_262.out; have hcz37_0 := cZ0 BK262; have hcz37_1 := cZ1 BK262; have hcz37_2 : w34.cell? ⟨gb262, 2, none⟩ = some (.int .i64 0) := (blk_cell BK262.out 2).trans rfl; have hcz37_3 : w34.cell? ⟨gb262, 3, none⟩ = some (.int .i64 0) := (blk_cell BK262.out 3).trans rfl; have hcz37_4 : w34.cell? ⟨gb262, 4, none⟩ = some (.slice none 0 0) := (blk_cell BK262.out 4).trans rfl; have hfz37_0 := fZ BK262 0; have hfz37_1 := fZ BK262 1; have hfz37_2 := fZ BK262 2; have hfz37_3 := fZ BK262 3; have hfz37_4 := fZ BK262 4))
  refine bodyPost_ret (results_cell_row rfl _ _ gb262 33 #[.int .i64 t263, .int .i64 t285, .int .i64 t265, .int .i64 t266, .slice Ao29 t267.length co29] (0, 0) _ rfl (by (with_reducible repeat (first | apply bN | apply bD | apply bA)); refine blk_put (cs := #[.int .i64 t263, .int .i64 t285, .int .i64 t265, .int .i64 t266, .slice none 0 0]) ?_ 4 _ rfl; (with_reducible repeat (first | apply bN | apply bD | apply bA)); refine blk_put (cs := #[.int .i64 t263, .int .i64 t285, .int .i64 t265, .int .i64 0, .slice none 0 0]) ?_ 3 _ rfl; (with_reducible repeat (first | apply bN | apply bD | apply bA)); refine blk_put (cs := #[.int .i64 t263, .int .i64 t285, .int .i64 0, .int .i64 0, .slice none 0 0]) ?_ 2 _ rfl; (with_reducible repeat (first | apply bN | apply bD | apply bA)); refine blk_put (cs := #[.int .i64 t263, .int .i64 0, .int .i64 0, .int .i64 0, .slice none 0 0]) ?_ 1 _ rfl; (with_reducible repeat (first | apply bN | apply bD | apply bA)); refine blk_put (cs := #[.int .i64 0, .int .i64 0, .int .i64 0, .int .i64 0, .slice none 0 0]) ?_ 0 _ rfl; (with_reducible repeat (first | apply bN | apply bD | apply bA)); refine blk_far ?_ NB262_272.out _; (with_reducible repeat (first | apply bN | apply bD | apply bA)); exact BK262.out) Try.underlying33 rfl (by kernel_rfl)) rfl ?_
  exact ⟨_, eW, by (with_reducible repeat (first | apply Kd.R_alloc | apply Kd.R_drewN | apply Kd.R_drew)); exact Kd.R_mono (Kd.R_far (p := ⟨gb262, 4, none⟩) (Kd.R_far (p := ⟨gb262, 3, none⟩) (Kd.R_far (p := ⟨gb262, 2, none⟩) (Kd.R_far (p := ⟨gb262, 1, none⟩) (Kd.R_far (p := ⟨gb262, 0, none⟩) (Kd.R_far (p := ⟨gb272, 1, none⟩) (Kd.R_types (Kd.R_types HO269.out BK272.out (by decide)) BK262.out (by decide)) (fun _ hk => hk.1.2) (.int .i64 t285)) (fun _ hk => hk.2) (.int .i64 t263)) (fun _ hk => hk.2) (.int .i64 t285)) (fun _ hk => hk.2) (.int .i64 t265)) (fun _ hk => hk.2) (.int .i64 t266)) (fun _ hk => hk.2) (.slice Ao29 t267.length co29)) (fun _ hk => trivial), IsS65.iI HI0, bB, bK HK⟩
 rw [if_neg c21] at H
 have c21b0 : (t273 == 1) = false := beq_eq_false_iff_ne.mpr c21
 have c21b1 : (t273 != 1) = true := bne_iff_ne.mpr c21
 by_cases c38 : t273 = 2
 ·rw [if_pos c38] at H
  have c38b0 : (t273 == 2) = true := beq_iff_eq.mpr c38
  have c38b1 : (t273 != 2) = false := bne_eq_false_iff_eq.mpr c38
  clear c38
  obtain ⟨y288, hy288⟩ : ∃ y_ : List Int, y_ = (([(-1), 100001] : List Int)) := ⟨_, rfl⟩
  replace H : ((spec_l1PickInt.f s0_0 t274 t275 y288).bind fun bt291 => (some (t263, t264, bt291.1, t266, t267, bt291.2.1, bt291.2.2))) = some (r1, r2, r3, r4, r5, r6, r7) := bQ hy288 H
  have Ny288 := aM hy288
  clear hy288
  replace H := Option.bind_eq_some_iff.mp H
  obtain ⟨⟨t291, t292, t293⟩, A390, H⟩ := H
  try dsimp only at H
  have A39 := aM A390
  clear A390
  simp only [Option.some.injEq, Prod.mk.injEq] at H
  obtain ⟨rfl, rfl, rfl, rfl, rfl, rfl, rfl⟩ := H
  go_enter Try.func36, Try.ntmps36
  go_wp2_with (first | ((with_reducible refine gate_dst (N := 2) rfl ?_); refine bE 2 #[.int .i64 0, .int .i64 0, .int .i64 0, .int .i64 0, .slice none 0 0] 33 ?_; intro gb262 hg w40 hbox hb; have n_ := aI (aM (IsS65.below (IsS65.iI HI0) hb)) (aI (aM (KeepBut.trans (bK HK) (KeepBut.of_below hb g none) (.inl rfl))) (aI (sB HB hb) (aI (aM hbox) (aI (aM ((by rw [hg]; exact (keep_size (w := w) (g := g) (row := none) (bK HK)) : w.heap.size ≤ gb262))) (aI (aM ((Nat.le_trans HW0.out (by rw [hg]; exact (keep_size (w := w) (g := g) (row := none) (bK HK)) : w.heap.size ≤ gb262) : w0.heap.size ≤ gb262))) (aI (aM ((by rw [hg]; exact Nat.ne_of_lt (IsS65.lt (show IsS65 w0 _ g s0_0 s0_1 s0_2 from IsS65.iI HI0)) : g ≠ gb262))) (aM ((by rw [hg]; exact Nat.ne_of_gt (IsS65.lt (show IsS65 w0 _ g s0_0 s0_1 s0_2 from IsS65.iI HI0)) : gb262 ≠ g))))))))); clear HI0 HK HB; obtain ⟨HI0, HK, HB, BK262, GW262, GE262, NB0_262, NB262_0⟩ := n_; (try clear hb hbox hg)) | ((with_reducible refine gate_callee (f := 40) rfl ?_); refine gL (some 5) Try.func40 #[.pointer (some ⟨g, 0, none⟩)] ?_; (with_reducible refine (spec_l5Right.calls k g s0_0 s0_1 s0_2 t263 t264 t265 t266 t267 t270 t271 w0 _ ?side1 ?side2 A2.out).mono ?_); (case side1 => exact IsS65.iI HI0); (case side2 => exact bB); rintro e w41 ⟨v268, rfl, ho0, hi, hb, hk⟩; refine ⟨_, rfl, ?_⟩; have n_ := aI (aM (KeepBut.blk hk (g' := gb262) (o := .cells #[.int .i64 0, .int .i64 0, .int .i64 0, .int .i64 0, .slice none 0 0] 33 (0, 0)) (kP BK262) NB262_0.out (by simp))) (aI (aM (Kd.R_lower ho0 (keep_size (w := w) (g := g) (row := none) (bK HK)))) (aI (aM (KeepBut.trans (bK HK) hk (.inl rfl))) (aI (aM (hb)) (aM (hi))))); clear BK262 HK HB HI0; obtain ⟨BK262, HO269, HK, HB, HI0⟩ := n_; (try clear hb hk hi ho0)) | ((with_reducible refine gate_dst (N := 3) rfl ?_); refine bE 3 #[.int .i64 0, .int .i64 0, .int .i64 0, .int .i64 0, .slice none 0 0] 33 ?_; intro gb272 hg w42 hbox hb; have n_ := aI (rB HO269 hb) (aI (aM (IsS65.below (IsS65.iI HI0) hb)) (aI (kB BK262 hb) (aI (aM (KeepBut.trans (bK HK) (KeepBut.of_below hb g none) (.inl rfl))) (aI (sB HB hb) (aI (aM hbox) (aI (aM ((by rw [hg]; exact (keep_size (w := w) (g := g) (row := none) (bK HK)) : w.heap.size ≤ gb272))) (aI (aM ((Nat.le_trans HW0.out (by rw [hg]; exact (keep_size (w := w) (g := g) (row := none) (bK HK)) : w.heap.size ≤ gb272) : w0.heap.size ≤ gb272))) (aI (nL BK262 hg) (aI (nG BK262 hg) (aI (aM ((by rw [hg]; exact Nat.ne_of_lt (IsS65.lt (show IsS65 w0 _ g s0_0 t270 t271 from IsS65.iI HI0)) : g ≠ gb272))) (aM ((by rw [hg]; exact Nat.ne_of_gt (IsS65.lt (show IsS65 w0 _ g s0_0 t270 t271 from IsS65.iI HI0)) : gb272 ≠ g))))))))))))); clear HO269 HI0 BK262 HK HB; obtain ⟨HO269, HI0, BK262, HK, HB, BK272, GW272, GE272, NB262_272, NB272_262, NB0_272, NB272_0⟩ := n_; (try clear hb hbox hg); have hnb43 := NB272_262.out; have hnc43 := NB262_272.out; have hnb44 := NB272_0.out; have hnc44 := NB0_272.out; have hcz45_0 := cZ0 BK272; have hcz45_1 := cZ1 BK272; have hcz45_2 : w42.cell? ⟨gb272, 2, none⟩ = some (.int .i64 0) := (blk_cell BK272.out 2).trans rfl; have hcz45_3 : w42.cell? ⟨gb272, 3, none⟩ = some (.int .i64 0) := (blk_cell BK272.out 3).trans rfl; have hcz45_4 : w42.cell? ⟨gb272, 4, none⟩ = some (.slice none 0 0) := (blk_cell BK272.out 4).trans rfl; have hfz45_0 := fZ BK272 0; have hfz45_1 := fZ BK272 1; have hfz45_2 := fZ BK272 2; have hfz45_3 := fZ BK272 3; have hfz45_4 := fZ BK272 4; obtain ⟨Ao46, co46, eo46⟩ := Kd.R_slice HO269.out; subst eo46) | ((with_reducible refine gate_callee (f := 41) rfl ?_); refine gL (some 7) Try.func41 #[.pointer (some ⟨g, 0, none⟩), .int .i64 14] ?_; (with_reducible refine (spec_l1Below.calls g s0_0 t270 t271 14 t273 t274 t275 w0 _ ?side1 ?side2 A3.out).mono ?_); (case side1 => exact IsS65.iI HI0); (case side2 => exact bB); rintro e w47 ⟨rfl, hi, hb, hk⟩; refine ⟨_, rfl, ?_⟩; have n_ := aI (aM (KeepBut.blk hk (g' := gb262) (o := .cells #[.int .i64 0, .int .i64 0, .int .i64 0, .int .i64 0, .slice none 0 0] 33 (0, 0)) (kP BK262) NB262_0.out (by simp))) (aI (aM (Kd.R_mono (Kd.R_keep (IsS65.apart (show IsS65 w0 _ g s0_0 t270 t271 from IsS65.iI HI0) (rP (Kd.R_mono (Kd.R_far (p := ⟨gb272, 4, none⟩) (Kd.R_far (p := ⟨gb272, 3, none⟩) (Kd.R_far (p := ⟨gb272, 2, none⟩) (Kd.R_far (p := ⟨gb272, 1, none⟩) (Kd.R_far (p := ⟨gb272, 0, none⟩) (Kd.R_types HO269.out BK272.out (by decide)) (fun _ hk => hk.2) (.int .i64 t263)) (fun _ hk => hk.2) (.int .i64 t264)) (fun _ hk => hk.2) (.int .i64 t265)) (fun _ hk => hk.2) (.int .i64 t266)) (fun _ hk => hk.2) (.slice Ao46 t267.length co46)) (fun _ h_ => h_.1))) (by decide)) hk (fun _ h => h.2)) (fun _ h => h.1))) (aI (aM (KeepBut.blk hk (g' := gb272) (o := .cells #[.int .i64 t263, .int .i64 t264, .int .i64 t265, .int .i64 t266, .slice Ao46 t267.length co46] 33 (0, 0)) (by (with_reducible repeat (first | apply bN | apply bD | apply bA)); refine blk_put (cs := #[.int .i64 t263, .int .i64 t264, .int .i64 t265, .int .i64 t266, .slice none 0 0]) ?_ 4 _ rfl; (with_reducible repeat (first | apply bN | apply bD | apply bA)); refine blk_put (cs := #[.int .i64 t263, .int .i64 t264, .int .i64 t265, .int .i64 0, .slice none 0 0]) ?_ 3 _ rfl; (with_reducible repeat (first | apply bN | apply bD | apply bA)); refine blk_put (cs := #[.int .i64 t263, .int .i64 t264, .int .i64 0, .int .i64 0, .slice none 0 0]) ?_ 2 _ rfl; (with_reducible repeat (first | apply bN | apply bD | apply bA)); refine blk_put (cs := #[.int .i64 t263, .int .i64 0, .int .i64 0, .int .i64 0, .slice none 0 0]) ?_ 1 _ rfl; (with_reducible repeat (first | apply bN | apply bD | apply bA)); refine blk_put (cs := #[.int .i64 0, .int .i64 0, .int .i64 0, .int .i64 0, .slice none 0 0]) ?_ 0 _ rfl; (with_reducible repeat (first | apply bN | apply bD | apply bA)); exact BK272.out) NB272_0.out (by simp))) (aI (aM (KeepBut.trans (bK HK) hk (.inl rfl))) (aI (aM (hb)) (aM (hi)))))); clear BK262 HO269 BK272 HK HB HI0; obtain ⟨BK262, HO269, BK272, HK, HB, HI0⟩ := n_; (try clear hb hk hi)) | ((with_reducible refine gate_dst (N := 23) rfl ?_); refine Kd.R_lit (Kd.int .i64) _ 3 ?hg (N := 23) ?hd (xs := ([(-1), 100001] : List Int)) (inner := [.int .i64 (-1), .int .i64 100001]) (ok := fun _ => True) (okp := fun _ => True) ?hr ?hp (fun _ hk => hk) trivial (Below.refl _ _) (Nat.le_refl _) (by simp) ?_; (case hd => rfl); (case hg => rfl); (case hr => first | (go_simp; done) | (go_simp; rfl)); (case hp => exact (Reps.one (show Kd.M (Kd.int .i64) _ _ _ (-1) [.int .i64 (-1)] from rfl) (Reps.one (show Kd.M (Kd.int .i64) _ _ _ 100001 [.int .i64 100001] from rfl) (Reps.none _ _)))); intro v289 w48 ho49 hb hg_ hnew_; clear hg_ hnew_; (first | rw [← Ny288.out] at ho49 | (simp only [Int.reduceToNat] at ho49; rw [← Ny288.out] at ho49)); have n_ := aI (eR HO269 ho49 hb) (aI (aM (Kd.R_lower (Kd.R_new' ho49 (rL HO269)) (keep_size (w := w) (g := g) (row := none) (bK HK)))) (aI (aM (IsS65.below (IsS65.iI HI0) hb)) (aI (kB BK262 hb) (aI (kB BK272 hb) (aI (aM (KeepBut.trans (bK HK) (KeepBut.of_below hb g none) (.inl rfl))) (sB HB hb)))))); clear HO269 HI0 BK262 BK272 HK HB; obtain ⟨HO269, HO290, HI0, BK262, BK272, HK, HB⟩ := n_; (try clear hb ho49); obtain ⟨Ao50, co50, eo50⟩ := Kd.R_slice HO290.out; subst eo50) | ((with_reducible refine gate_callee (f := 49) rfl ?_); refine gL (some 24) Try.func49 #[.pointer (some ⟨g, 0, none⟩), .slice Ao50 y288.length co50] ?_; (with_reducible refine (spec_l1PickInt.calls g s0_0 t274 t275 _ _ y288 t291 t292 t293 w0 _ ?side1 ?side2 ?side3 ?side4 ?side5 A39.out).mono ?_); (case side1 => exact IsS65.iI HI0); (case side2 => exact bB); (case side3 => exact cR HO290); (case side4 => exact (Kd.R_reads' HO290.out).2.1); (case side5 => exact far_slice (IsS65.own_ne HI0.out HO290.out (by decide))); rintro e w51 ⟨rfl, hi, hb, hk⟩; refine ⟨_, rfl, ?_⟩; have n_ := aI (aM (KeepBut.blk hk (g' := gb262) (o := .cells #[.int .i64 0, .int .i64 0, .int .i64 0, .int .i64 0, .slice none 0 0] 33 (0, 0)) (kP BK262) NB262_0.out (by simp))) (aI (aM (Kd.R_mono (Kd.R_keep (IsS65.apart (show IsS65 w0 _ g s0_0 t274 t275 from IsS65.iI HI0) (rP HO269.out) (by decide)) hk (fun _ h => h.2)) (fun _ h => h.1))) (aI (aM (KeepBut.blk hk (g' := gb272) (o := .cells #[.int .i64 t263, .int .i64 t264, .int .i64 t265, .int .i64 t266, .slice Ao46 t267.length co46] 33 (0, 0)) (kP BK272) NB272_0.out (by simp))) (aI (aM (Kd.R_mono (Kd.R_keep (IsS65.apart (show IsS65 w0 _ g s0_0 t274 t275 from IsS65.iI HI0) (rP HO290.out) (by decide)) hk (fun _ h => h.2)) (fun _ h => h.1))) (aI (aM (KeepBut.trans (bK HK) hk (.inl rfl))) (aI (aM (hb)) (aM (hi))))))); clear BK262 HO269 BK272 HO290 HK HB HI0; obtain ⟨BK262, HO269, BK272, HO290, HK, HB, HI0⟩ := n_; (try clear hb hk hi); have hcz52_0 := cZ0 BK272; have hcz52_1 := cZ1 BK272; have hcz52_2 : w51.cell? ⟨gb272, 2, none⟩ = some (.int .i64 t265) := (blk_cell BK272.out 2).trans rfl; have hcz52_3 : w51.cell? ⟨gb272, 3, none⟩ = some (.int .i64 t266) := (blk_cell BK272.out 3).trans rfl; have hcz52_4 : w51.cell? ⟨gb272, 4, none⟩ = some (.slice Ao46 t267.length co46) := (blk_cell BK272.out 4).trans rfl; have hfz52_0 := fZ BK272 0; have hfz52_1 := fZ BK272 1; have hfz52_2 := fZ BK272 2; have hfz52_3 := fZ BK272 3; have hfz52_4 := fZ BK272 4; have hnb53 := NB262_0.out; have hnc53 := NB0_262.out; have hcz54_0 := cZ0 BK262; have hcz54_1 := cZ1 BK262; have hcz54_2 : w51.cell? ⟨gb262, 2, none⟩ = some (.int .i64 0) := (blk_cell BK262.out 2).trans rfl; have hcz54_3 : w51.cell? ⟨gb262, 3, none⟩ = some (.int .i64 0) := (blk_cell BK262.out 3).trans rfl; have hcz54_4 : w51.cell? ⟨gb262, 4, none⟩ = some (.slice none 0 0) := (blk_cell BK262.out 4).trans rfl; have hfz54_0 := fZ BK262 0; have hfz54_1 := fZ BK262 1; have hfz54_2 := fZ BK262 2; have hfz54_3 := fZ BK262 3; have hfz54_4 := fZ BK262 4))
  refine bodyPost_ret (results_cell_row rfl _ _ gb262 33 #[.int .i64 t263, .int .i64 t264, .int .i64 t291, .int .i64 t266, .slice Ao46 t267.length co46] (0, 0) _ rfl (by (with_reducible repeat (first | apply bN | apply bD | apply bA)); refine blk_put (cs := #[.int .i64 t263, .int .i64 t264, .int .i64 t291, .int .i64 t266, .slice none 0 0]) ?_ 4 _ rfl; (with_reducible repeat (first | apply bN | apply bD | apply bA)); refine blk_put (cs := #[.int .i64 t263, .int .i64 t264, .int .i64 t291, .int .i64 0, .slice none 0 0]) ?_ 3 _ rfl; (with_reducible repeat (first | apply bN | apply bD | apply bA)); refine blk_put (cs := #[.int .i64 t263, .int .i64 t264, .int .i64 0, .int .i64 0, .slice none 0 0]) ?_ 2 _ rfl; (with_reducible repeat (first | apply bN | apply bD | apply bA)); refine blk_put (cs := #[.int .i64 t263, .int .i64 0, .int .i64 0, .int .i64 0, .slice none 0 0]) ?_ 1 _ rfl; (with_reducible repeat (first | apply bN | apply bD | apply bA)); refine blk_put (cs := #[.int .i64 0, .int .i64 0, .int .i64 0, .int .i64 0, .slice none 0 0]) ?_ 0 _ rfl; (with_reducible repeat (first | apply bN | apply bD | apply bA)); refine blk_far ?_ NB262_272.out _; (with_reducible repeat (first | apply bN | apply bD | apply bA)); exact BK262.out) Try.underlying33 rfl (by kernel_rfl)) rfl ?_
  exact ⟨_, eW, by (with_reducible repeat (first | apply Kd.R_alloc | apply Kd.R_drewN | apply Kd.R_drew)); exact Kd.R_mono (Kd.R_far (p := ⟨gb262, 4, none⟩) (Kd.R_far (p := ⟨gb262, 3, none⟩) (Kd.R_far (p := ⟨gb262, 2, none⟩) (Kd.R_far (p := ⟨gb262, 1, none⟩) (Kd.R_far (p := ⟨gb262, 0, none⟩) (Kd.R_far (p := ⟨gb272, 2, none⟩) (Kd.R_types (Kd.R_types HO269.out BK272.out (by decide)) BK262.out (by decide)) (fun _ hk => hk.1.2) (.int .i64 t291)) (fun _ hk => hk.2) (.int .i64 t263)) (fun _ hk => hk.2) (.int .i64 t264)) (fun _ hk => hk.2) (.int .i64 t291)) (fun _ hk => hk.2) (.int .i64 t266)) (fun _ hk => hk.2) (.slice Ao46 t267.length co46)) (fun _ hk => trivial), IsS65.iI HI0, bB, bK HK⟩
 rw [if_neg c38] at H
 have c38b0 : (t273 == 2) = false := beq_eq_false_iff_ne.mpr c38
 have c38b1 : (t273 != 2) = true := bne_iff_ne.mpr c38
 by_cases c55 : t273 = 3
 ·rw [if_pos c55] at H
  have c55b0 : (t273 == 3) = true := beq_iff_eq.mpr c55
  have c55b1 : (t273 != 3) = false := bne_eq_false_iff_eq.mpr c55
  clear c55
  obtain ⟨y294, hy294⟩ : ∃ y_ : List Int, y_ = (([(-1), 81, wrap64 (t266 + 16)] : List Int)) := ⟨_, rfl⟩
  replace H : ((spec_l1PickInt.f s0_0 t274 t275 y294).bind fun bt297 => (some (t263, t264, t265, bt297.1, t267, bt297.2.1, bt297.2.2))) = some (r1, r2, r3, r4, r5, r6, r7) := bQ hy294 H
  have Ny294 := aM hy294
  clear hy294
  replace H := Option.bind_eq_some_iff.mp H
  obtain ⟨⟨t297, t298, t299⟩, A560, H⟩ := H
  try dsimp only at H
  have A56 := aM A560
  clear A560
  simp only [Option.some.injEq, Prod.mk.injEq] at H
  obtain ⟨rfl, rfl, rfl, rfl, rfl, rfl, rfl⟩ := H
  go_enter Try.func36, Try.ntmps36
  go_wp2_with (first | ((with_reducible refine gate_dst (N := 2) rfl ?_); refine bE 2 #[.int .i64 0, .int .i64 0, .int .i64 0, .int .i64 0, .slice none 0 0] 33 ?_; intro gb262 hg w57 hbox hb; have n_ := aI (aM (IsS65.below (IsS65.iI HI0) hb)) (aI (aM (KeepBut.trans (bK HK) (KeepBut.of_below hb g none) (.inl rfl))) (aI (sB HB hb) (aI (aM hbox) (aI (aM ((by rw [hg]; exact (keep_size (w := w) (g := g) (row := none) (bK HK)) : w.heap.size ≤ gb262))) (aI (aM ((Nat.le_trans HW0.out (by rw [hg]; exact (keep_size (w := w) (g := g) (row := none) (bK HK)) : w.heap.size ≤ gb262) : w0.heap.size ≤ gb262))) (aI (aM ((by rw [hg]; exact Nat.ne_of_lt (IsS65.lt (show IsS65 w0 _ g s0_0 s0_1 s0_2 from IsS65.iI HI0)) : g ≠ gb262))) (aM ((by rw [hg]; exact Nat.ne_of_gt (IsS65.lt (show IsS65 w0 _ g s0_0 s0_1 s0_2 from IsS65.iI HI0)) : gb262 ≠ g))))))))); clear HI0 HK HB; obtain ⟨HI0, HK, HB, BK262, GW262, GE262, NB0_262, NB262_0⟩ := n_; (try clear hb hbox hg)) | ((with_reducible refine gate_callee (f := 40) rfl ?_); refine gL (some 5) Try.func40 #[.pointer (some ⟨g, 0, none⟩)] ?_; (with_reducible refine (spec_l5Right.calls k g s0_0 s0_1 s0_2 t263 t264 t265 t266 t267 t270 t271 w0 _ ?side1 ?side2 A2.out).mono ?_); (case side1 => exact IsS65.iI HI0); (case side2 => exact bB); rintro e w58 ⟨v268, rfl, ho0, hi, hb, hk⟩; refine ⟨_, rfl, ?_⟩; have n_ := aI (aM (KeepBut.blk hk (g' := gb262) (o := .cells #[.int .i64 0, .int .i64 0, .int .i64 0, .int .i64 0, .slice none 0 0] 33 (0, 0)) (kP BK262) NB262_0.out (by simp))) (aI (aM (Kd.R_lower ho0 (keep_size (w := w) (g := g) (row := none) (bK HK)))) (aI (aM (KeepBut.trans (bK HK) hk (.inl rfl))) (aI (aM (hb)) (aM (hi))))); clear BK262 HK HB HI0; obtain ⟨BK262, HO269, HK, HB, HI0⟩ := n_; (try clear hb hk hi ho0)) | ((with_reducible refine gate_dst (N := 3) rfl ?_); refine bE 3 #[.int .i64 0, .int .i64 0, .int .i64 0, .int .i64 0, .slice none 0 0] 33 ?_; intro gb272 hg w59 hbox hb; have n_ := aI (rB HO269 hb) (aI (aM (IsS65.below (IsS65.iI HI0) hb)) (aI (kB BK262 hb) (aI (aM (KeepBut.trans (bK HK) (KeepBut.of_below hb g none) (.inl rfl))) (aI (sB HB hb) (aI (aM hbox) (aI (aM ((by rw [hg]; exact (keep_size (w := w) (g := g) (row := none) (bK HK)) : w.heap.size ≤ gb272))) (aI (aM ((Nat.le_trans HW0.out (by rw [hg]; exact (keep_size (w := w) (g := g) (row := none) (bK HK)) : w.heap.size ≤ gb272) : w0.heap.size ≤ gb272))) (aI (nL BK262 hg) (aI (nG BK262 hg) (aI (aM ((by rw [hg]; exact Nat.ne_of_lt (IsS65.lt (show IsS65 w0 _ g s0_0 t270 t271 from IsS65.iI HI0)) : g ≠ gb272))) (aM ((by rw [hg]; exact Nat.ne_of_gt (IsS65.lt (show IsS65 w0 _ g s0_0 t270 t271 from IsS65.iI HI0)) : gb272 ≠ g))))))))))))); clear HO269 HI0 BK262 HK HB; obtain ⟨HO269, HI0, BK262, HK, HB, BK272, GW272, GE272, NB262_272, NB272_262, NB0_272, NB272_0⟩ := n_; (try clear hb hbox hg); have hnb60 := NB272_262.out; have hnc60 := NB262_272.out; have hnb61 := NB272_0.out; have hnc61 := NB0_272.out; have hcz62_0 := cZ0 BK272; have hcz62_1 := cZ1 BK272; have hcz62_2 : w59.cell? ⟨gb272, 2, none⟩ = some (.int .i64 0) := (blk_cell BK272.out 2).trans rfl; have hcz62_3 : w59.cell? ⟨gb272, 3, none⟩ = some (.int .i64 0) := (blk_cell BK272.out 3).trans rfl; have hcz62_4 : w59.cell? ⟨gb272, 4, none⟩ = some (.slice none 0 0) := (blk_cell BK272.out 4).trans rfl; have hfz62_0 := fZ BK272 0; have hfz62_1 := fZ BK272 1; have hfz62_2 := fZ BK272 2; have hfz62_3 := fZ BK272 3; have hfz62_4 := fZ BK272 4; obtain ⟨Ao63, co63, eo63⟩ := Kd.R_slice HO269.out; subst eo63) | ((with_reducible refine gate_callee (f := 41) rfl ?_); refine gL (some 7) Try.func41 #[.pointer (some ⟨g, 0, none⟩), .int .i64 14] ?_; (with_reducible refine (spec_l1Below.calls g s0_0 t270 t271 14 t273 t274 t275 w0 _ ?side1 ?side2 A3.out).mono ?_); (case side1 => exact IsS65.iI HI0); (case side2 => exact bB); rintro e w64 ⟨rfl, hi, hb, hk⟩; refine ⟨_, rfl, ?_⟩; have n_ := aI (aM (KeepBut.blk hk (g' := gb262) (o := .cells #[.int .i64 0, .int .i64 0, .int .i64 0, .int .i64 0, .slice none 0 0] 33 (0, 0)) (kP BK262) NB262_0.out (by simp))) (aI (aM (Kd.R_mono (Kd.R_keep (IsS65.apart (show IsS65 w0 _ g s0_0 t270 t271 from IsS65.iI HI0) (rP (Kd.R_mono (Kd.R_far (p := ⟨gb272, 4, none⟩) (Kd.R_far (p := ⟨gb272, 3, none⟩) (Kd.R_far (p := ⟨gb272, 2, none⟩) (Kd.R_far (p := ⟨gb272, 1, none⟩) (Kd.R_far (p := ⟨gb272, 0, none⟩) (Kd.R_types HO269.out BK272.out (by decide)) (fun _ hk => hk.2) (.int .i64 t263)) (fun _ hk => hk.2) (.int .i64 t264)) (fun _ hk => hk.2) (.int .i64 t265)) (fun _ hk => hk.2) (.int .i64 t266)) (fun _ hk => hk.2) (.slice Ao63 t267.length co63)) (fun _ h_ => h_.1))) (by decide)) hk (fun _ h => h.2)) (fun _ h => h.1))) (aI (aM (KeepBut.blk hk (g' := gb272) (o := .cells #[.int .i64 t263, .int .i64 t264, .int .i64 t265, .int .i64 t266, .slice Ao63 t267.length co63] 33 (0, 0)) (by (with_reducible repeat (first | apply bN | apply bD | apply bA)); refine blk_put (cs := #[.int .i64 t263, .int .i64 t264, .int .i64 t265, .int .i64 t266, .slice none 0 0]) ?_ 4 _ rfl; (with_reducible repeat (first | apply bN | apply bD | apply bA)); refine blk_put (cs := #[.int .i64 t263, .int .i64 t264, .int .i64 t265, .int .i64 0, .slice none 0 0]) ?_ 3 _ rfl; (with_reducible repeat (first | apply bN | apply bD | apply bA)); refine blk_put (cs := #[.int .i64 t263, .int .i64 t264, .int .i64 0, .int .i64 0, .slice none 0 0]) ?_ 2 _ rfl; (with_reducible repeat (first | apply bN | apply bD | apply bA)); refine blk_put (cs := #[.int .i64 t263, .int .i64 0, .int .i64 0, .int .i64 0, .slice none 0 0]) ?_ 1 _ rfl; (with_reducible repeat (first | apply bN | apply bD | apply bA)); refine blk_put (cs := #[.int .i64 0, .int .i64 0, .int .i64 0, .int .i64 0, .slice none 0 0]) ?_ 0 _ rfl; (with_reducible repeat (first | apply bN | apply bD | apply bA)); exact BK272.out) NB272_0.out (by simp))) (aI (aM (KeepBut.trans (bK HK) hk (.inl rfl))) (aI (aM (hb)) (aM (hi)))))); clear BK262 HO269 BK272 HK HB HI0; obtain ⟨BK262, HO269, BK272, HK, HB, HI0⟩ := n_; (try clear hb hk hi); have hcz65_0 := cZ0 BK272; have hcz65_1 := cZ1 BK272; have hcz65_2 : w64.cell? ⟨gb272, 2, none⟩ = some (.int .i64 t265) := (blk_cell BK272.out 2).trans rfl; have hcz65_3 : w64.cell? ⟨gb272, 3, none⟩ = some (.int .i64 t266) := (blk_cell BK272.out 3).trans rfl; have hcz65_4 : w64.cell? ⟨gb272, 4, none⟩ = some (.slice Ao63 t267.length co63) := (blk_cell BK272.out 4).trans rfl; have hfz65_0 := fZ BK272 0; have hfz65_1 := fZ BK272 1; have hfz65_2 := fZ BK272 2; have hfz65_3 := fZ BK272 3; have hfz65_4 := fZ BK272 4) | ((with_reducible refine gate_dst (N := 32) rfl ?_); refine Kd.R_lit (Kd.int .i64) _ 3 ?hg (N := 32) ?hd (xs := ([(-1), 81, wrap64 (t266 + 16)] : List Int)) (inner := [.int .i64 (-1), .int .i64 81, .int .i64 (wrap64 (t266 + 16))]) (ok := fun _ => True) (okp := fun _ => True) ?hr ?hp (fun _ hk => hk) trivial (Below.refl _ _) (Nat.le_refl _) (by simp) ?_; (case hd => rfl); (case hg => rfl); (case hr => first | (go_simp; done) | (go_simp; rfl)); (case hp => exact (Reps.one (show Kd.M (Kd.int .i64) _ _ _ (-1) [.int .i64 (-1)] from rfl) (Reps.one (show Kd.M (Kd.int .i64) _ _ _ 81 [.int .i64 81] from rfl) (Reps.one (show Kd.M (Kd.int .i64) _ _ _ (wrap64 (t266 + 16)) [.int .i64 (wrap64 (t266 + 16))] from rfl) (Reps.none _ _))))); intro v295 w66 ho67 hb hg_ hnew_; clear hg_ hnew_; (first | rw [← Ny294.out] at ho67 | (simp only [Int.reduceToNat] at ho67; rw [← Ny294.out] at ho67)); have n_ := aI (eR HO269 ho67 hb) (aI (aM (Kd.R_lower (Kd.R_new' ho67 (rL HO269)) (keep_size (w := w) (g := g) (row := none) (bK HK)))) (aI (aM (IsS65.below (IsS65.iI HI0) hb)) (aI (kB BK262 hb) (aI (kB BK272 hb) (aI (aM (KeepBut.trans (bK HK) (KeepBut.of_below hb g none) (.inl rfl))) (sB HB hb)))))); clear HO269 HI0 BK262 BK272 HK HB; obtain ⟨HO269, HO296, HI0, BK262, BK272, HK, HB⟩ := n_; (try clear hb ho67); obtain ⟨Ao68, co68, eo68⟩ := Kd.R_slice HO296.out; subst eo68) | ((with_reducible refine gate_callee (f := 49) rfl ?_); refine gL (some 33) Try.func49 #[.pointer (some ⟨g, 0, none⟩), .slice Ao68 y294.length co68] ?_; (with_reducible refine (spec_l1PickInt.calls g s0_0 t274 t275 _ _ y294 t297 t298 t299 w0 _ ?side1 ?side2 ?side3 ?side4 ?side5 A56.out).mono ?_); (case side1 => exact IsS65.iI HI0); (case side2 => exact bB); (case side3 => exact cR HO296); (case side4 => exact (Kd.R_reads' HO296.out).2.1); (case side5 => exact far_slice (IsS65.own_ne HI0.out HO296.out (by decide))); rintro e w69 ⟨rfl, hi, hb, hk⟩; refine ⟨_, rfl, ?_⟩; have n_ := aI (aM (KeepBut.blk hk (g' := gb262) (o := .cells #[.int .i64 0, .int .i64 0, .int .i64 0, .int .i64 0, .slice none 0 0] 33 (0, 0)) (kP BK262) NB262_0.out (by simp))) (aI (aM (Kd.R_mono (Kd.R_keep (IsS65.apart (show IsS65 w0 _ g s0_0 t274 t275 from IsS65.iI HI0) (rP HO269.out) (by decide)) hk (fun _ h => h.2)) (fun _ h => h.1))) (aI (aM (KeepBut.blk hk (g' := gb272) (o := .cells #[.int .i64 t263, .int .i64 t264, .int .i64 t265, .int .i64 t266, .slice Ao63 t267.length co63] 33 (0, 0)) (kP BK272) NB272_0.out (by simp))) (aI (aM (Kd.R_mono (Kd.R_keep (IsS65.apart (show IsS65 w0 _ g s0_0 t274 t275 from IsS65.iI HI0) (rP HO296.out) (by decide)) hk (fun _ h => h.2)) (fun _ h => h.1))) (aI (aM (KeepBut.trans (bK HK) hk (.inl rfl))) (aI (aM (hb)) (aM (hi))))))); clear BK262 HO269 BK272 HO296 HK HB HI0; obtain ⟨BK262, HO269, BK272, HO296, HK, HB, HI0⟩ := n_; (try clear hb hk hi); have hcz70_0 := cZ0 BK272; have hcz70_1 := cZ1 BK272; have hcz70_2 : w69.cell? ⟨gb272, 2, none⟩ = some (.int .i64 t265) := (blk_cell BK272.out 2).trans rfl; have hcz70_3 : w69.cell? ⟨gb272, 3, none⟩ = some (.int .i64 t266) := (blk_cell BK272.out 3).trans rfl; have hcz70_4 : w69.cell? ⟨gb272, 4, none⟩ = some (.slice Ao63 t267.length co63) := (blk_cell BK272.out 4).trans rfl; have hfz70_0 := fZ BK272 0; have hfz70_1 := fZ BK272 1; have hfz70_2 := fZ BK272 2; have hfz70_3 := fZ BK272 3; have hfz70_4 := fZ BK272 4; have hnb71 := NB262_0.out; have hnc71 := NB0_262.out; have hcz72_0 := cZ0 BK262; have hcz72_1 := cZ1 BK262; have hcz72_2 : w69.cell? ⟨gb262, 2, none⟩ = some (.int .i64 0) := (blk_cell BK262.out 2).trans rfl; have hcz72_3 : w69.cell? ⟨gb262, 3, none⟩ = some (.int .i64 0) := (blk_cell BK262.out 3).trans rfl; have hcz72_4 : w69.cell? ⟨gb262, 4, none⟩ = some (.slice none 0 0) := (blk_cell BK262.out 4).trans rfl; have hfz72_0 := fZ BK262 0; have hfz72_1 := fZ BK262 1; have hfz72_2 := fZ BK262 2; have hfz72_3 := fZ BK262 3; have hfz72_4 := fZ BK262 4))
  refine bodyPost_ret (results_cell_row rfl _ _ gb262 33 #[.int .i64 t263, .int .i64 t264, .int .i64 t265, .int .i64 t297, .slice Ao63 t267.length co63] (0, 0) _ rfl (by (with_reducible repeat (first | apply bN | apply bD | apply bA)); refine blk_put (cs := #[.int .i64 t263, .int .i64 t264, .int .i64 t265, .int .i64 t297, .slice none 0 0]) ?_ 4 _ rfl; (with_reducible repeat (first | apply bN | apply bD | apply bA)); refine blk_put (cs := #[.int .i64 t263, .int .i64 t264, .int .i64 t265, .int .i64 0, .slice none 0 0]) ?_ 3 _ rfl; (with_reducible repeat (first | apply bN | apply bD | apply bA)); refine blk_put (cs := #[.int .i64 t263, .int .i64 t264, .int .i64 0, .int .i64 0, .slice none 0 0]) ?_ 2 _ rfl; (with_reducible repeat (first | apply bN | apply bD | apply bA)); refine blk_put (cs := #[.int .i64 t263, .int .i64 0, .int .i64 0, .int .i64 0, .slice none 0 0]) ?_ 1 _ rfl; (with_reducible repeat (first | apply bN | apply bD | apply bA)); refine blk_put (cs := #[.int .i64 0, .int .i64 0, .int .i64 0, .int .i64 0, .slice none 0 0]) ?_ 0 _ rfl; (with_reducible repeat (first | apply bN | apply bD | apply bA)); refine blk_far ?_ NB262_272.out _; (with_reducible repeat (first | apply bN | apply bD | apply bA)); exact BK262.out) Try.underlying33 rfl (by kernel_rfl)) rfl ?_
  exact ⟨_, eW, by (with_reducible repeat (first | apply Kd.R_alloc | apply Kd.R_drewN | apply Kd.R_drew)); exact Kd.R_mono (Kd.R_far (p := ⟨gb262, 4, none⟩) (Kd.R_far (p := ⟨gb262, 3, none⟩) (Kd.R_far (p := ⟨gb262, 2, none⟩) (Kd.R_far (p := ⟨gb262, 1, none⟩) (Kd.R_far (p := ⟨gb262, 0, none⟩) (Kd.R_far (p := ⟨gb272, 3, none⟩) (Kd.R_types (Kd.R_types HO269.out BK272.out (by decide)) BK262.out (by decide)) (fun _ hk => hk.1.2) (.int .i64 t297)) (fun _ hk => hk.2) (.int .i64 t263)) (fun _ hk => hk.2) (.int .i64 t264)) (fun _ hk => hk.2) (.int .i64 t265)) (fun _ hk => hk.2) (.int .i64 t297)) (fun _ hk => hk.2) (.slice Ao63 t267.length co63)) (fun _ hk => trivial), IsS65.iI HI0, bB, bK HK⟩
 rw [if_neg c55] at H
 have c55b0 : (t273 == 3) = false := beq_eq_false_iff_ne.mpr c55
 have c55b1 : (t273 != 3) = true := bne_iff_ne.mpr c55
 by_cases c73 : t273 = 4
 ·rw [if_pos c73] at H
  have c73b0 : (t273 == 4) = true := beq_iff_eq.mpr c73
  have c73b1 : (t273 != 4) = false := bne_eq_false_iff_eq.mpr c73
  clear c73
  obtain ⟨y300, hy300⟩ : ∃ y_ : List Int, y_ = (([0, 36, (-1)] : List Int)) := ⟨_, rfl⟩
  replace H : ((spec_l1PickInt.f s0_0 t274 t275 y300).bind fun bt303 => (if t267.length < 17592186044416 then (some (t263, t264, t265, t266, (t267 ++ [bt303.1]), bt303.2.1, bt303.2.2)) else (none))) = some (r1, r2, r3, r4, r5, r6, r7) := bQ hy300 H
  have Ny300 := aM hy300
  clear hy300
  replace H := Option.bind_eq_some_iff.mp H
  obtain ⟨⟨t303, t304, t305⟩, A740, H⟩ := H
  try dsimp only at H
  have A74 := aM A740
  clear A740
  by_cases c75 : t267.length < 17592186044416
  ·rw [if_pos c75] at H
   have LMc75 := aM c75
   clear c75
   obtain ⟨y306, hy306⟩ : ∃ y_ : List Int, y_ = (t267 ++ [t303]) := ⟨_, rfl⟩
   replace H : (some (t263, t264, t265, t266, y306, t304, t305)) = some (r1, r2, r3, r4, r5, r6, r7) := bQ hy306 H
   have Ny306 := aM hy306
   clear hy306
   simp only [Option.some.injEq, Prod.mk.injEq] at H
   obtain ⟨rfl, rfl, rfl, rfl, rfl, rfl, rfl⟩ := H
   go_enter Try.func36, Try.ntmps36
   try go_wp2_with (first | ((with_reducible refine gate_dst (N := 2) rfl ?_); refine bE 2 #[.int .i64 0, .int .i64 0, .int .i64 0, .int .i64 0, .slice none 0 0] 33 ?_; intro gb262 hg w76 hbox hb; have n_ := aI (aM (IsS65.below (IsS65.iI HI0) hb)) (aI (aM (KeepBut.trans (bK HK) (KeepBut.of_below hb g none) (.inl rfl))) (aI (sB HB hb) (aI (aM hbox) (aI (aM ((by rw [hg]; exact (keep_size (w := w) (g := g) (row := none) (bK HK)) : w.heap.size ≤ gb262))) (aI (aM ((Nat.le_trans HW0.out (by rw [hg]; exact (keep_size (w := w) (g := g) (row := none) (bK HK)) : w.heap.size ≤ gb262) : w0.heap.size ≤ gb262))) (aI (aM ((by rw [hg]; exact Nat.ne_of_lt (IsS65.lt (show IsS65 w0 _ g s0_0 s0_1 s0_2 from IsS65.iI HI0)) : g ≠ gb262))) (aM ((by rw [hg]; exact Nat.ne_of_gt (IsS65.lt (show IsS65 w0 _ g s0_0 s0_1 s0_2 from IsS65.iI HI0)) : gb262 ≠ g))))))))); clear HI0 HK HB; obtain ⟨HI0, HK, HB, BK262, GW262, GE262, NB0_262, NB262_0⟩ := n_; (try clear hb hbox hg)) | ((with_reducible refine gate_callee (f := 40) rfl ?_); refine gL (some 5) Try.func40 #[.pointer (some ⟨g, 0, none⟩)] ?_; (with_reducible refine (spec_l5Right.calls k g s0_0 s0_1 s0_2 t263 t264 t265 t266 t267 t270 t271 w0 _ ?side1 ?side2 A2.out).mono ?_); (case side1 => exact IsS65.iI HI0); (case side2 => exact bB); rintro e w77 ⟨v268, rfl, ho0, hi, hb, hk⟩; refine ⟨_, rfl, ?_⟩; have n_ := aI (aM (KeepBut.blk hk (g' := gb262) (o := .cells #[.int .i64 0, .int .i64 0, .int .i64 0, .int .i64 0, .slice none 0 0] 33 (0, 0)) (kP BK262) NB262_0.out (by simp))) (aI (aM (Kd.R_lower ho0 (keep_size (w := w) (g := g) (row := none) (bK HK)))) (aI (aM (KeepBut.trans (bK HK) hk (.inl rfl))) (aI (aM (hb)) (aM (hi))))); clear BK262 HK HB HI0; obtain ⟨BK262, HO269, HK, HB, HI0⟩ := n_; (try clear hb hk hi ho0)) | ((with_reducible refine gate_dst (N := 3) rfl ?_); refine bE 3 #[.int .i64 0, .int .i64 0, .int .i64 0, .int .i64 0, .slice none 0 0] 33 ?_; intro gb272 hg w78 hbox hb; have n_ := aI (rB HO269 hb) (aI (aM (IsS65.below (IsS65.iI HI0) hb)) (aI (kB BK262 hb) (aI (aM (KeepBut.trans (bK HK) (KeepBut.of_below hb g none) (.inl rfl))) (aI (sB HB hb) (aI (aM hbox) (aI (aM ((by rw [hg]; exact (keep_size (w := w) (g := g) (row := none) (bK HK)) : w.heap.size ≤ gb272))) (aI (aM ((Nat.le_trans HW0.out (by rw [hg]; exact (keep_size (w := w) (g := g) (row := none) (bK HK)) : w.heap.size ≤ gb272) : w0.heap.size ≤ gb272))) (aI (nL BK262 hg) (aI (nG BK262 hg) (aI (aM ((by rw [hg]; exact Nat.ne_of_lt (IsS65.lt (show IsS65 w0 _ g s0_0 t270 t271 from IsS65.iI HI0)) : g ≠ gb272))) (aM ((by rw [hg]; exact Nat.ne_of_gt (IsS65.lt (show IsS65 w0 _ g s0_0 t270 t271 from IsS65.iI HI0)) : gb272 ≠ g))))))))))))); clear HO269 HI0 BK262 HK HB; obtain ⟨HO269, HI0, BK262, HK, HB, BK272, GW272, GE272, NB262_272, NB272_262, NB0_272, NB272_0⟩ := n_; (try clear hb hbox hg); have hnb79 := NB272_262.out; have hnc79 := NB262_272.out; have hnb80 := NB272_0.out; have hnc80 := NB0_272.out; have hcz81_0 := cZ0 BK272; have hcz81_1 := cZ1 BK272; have hcz81_2 : w78.cell? ⟨gb272, 2, none⟩ = some (.int .i64 0) := (blk_cell BK272.out 2).trans rfl; have hcz81_3 : w78.cell? ⟨gb272, 3, none⟩ = some (.int .i64 0) := (blk_cell BK272.out 3).trans rfl; have hcz81_4 : w78.cell? ⟨gb272, 4, none⟩ = some (.slice none 0 0) := (blk_cell BK272.out 4).trans rfl; have hfz81_0 := fZ BK272 0; have hfz81_1 := fZ BK272 1; have hfz81_2 := fZ BK272 2; have hfz81_3 := fZ BK272 3; have hfz81_4 := fZ BK272 4; obtain ⟨Ao82, co82, eo82⟩ := Kd.R_slice HO269.out; subst eo82) | ((with_reducible refine gate_callee (f := 41) rfl ?_); refine gL (some 7) Try.func41 #[.pointer (some ⟨g, 0, none⟩), .int .i64 14] ?_; (with_reducible refine (spec_l1Below.calls g s0_0 t270 t271 14 t273 t274 t275 w0 _ ?side1 ?side2 A3.out).mono ?_); (case side1 => exact IsS65.iI HI0); (case side2 => exact bB); rintro e w83 ⟨rfl, hi, hb, hk⟩; refine ⟨_, rfl, ?_⟩; have n_ := aI (aM (KeepBut.blk hk (g' := gb262) (o := .cells #[.int .i64 0, .int .i64 0, .int .i64 0, .int .i64 0, .slice none 0 0] 33 (0, 0)) (kP BK262) NB262_0.out (by simp))) (aI (aM (Kd.R_mono (Kd.R_keep (IsS65.apart (show IsS65 w0 _ g s0_0 t270 t271 from IsS65.iI HI0) (rP (Kd.R_mono (Kd.R_far (p := ⟨gb272, 4, none⟩) (Kd.R_far (p := ⟨gb272, 3, none⟩) (Kd.R_far (p := ⟨gb272, 2, none⟩) (Kd.R_far (p := ⟨gb272, 1, none⟩) (Kd.R_far (p := ⟨gb272, 0, none⟩) (Kd.R_types HO269.out BK272.out (by decide)) (fun _ hk => hk.2) (.int .i64 t263)) (fun _ hk => hk.2) (.int .i64 t264)) (fun _ hk => hk.2) (.int .i64 t265)) (fun _ hk => hk.2) (.int .i64 t266)) (fun _ hk => hk.2) (.slice Ao82 t267.length co82)) (fun _ h_ => h_.1))) (by decide)) hk (fun _ h => h.2)) (fun _ h => h.1))) (aI (aM (KeepBut.blk hk (g' := gb272) (o := .cells #[.int .i64 t263, .int .i64 t264, .int .i64 t265, .int .i64 t266, .slice Ao82 t267.length co82] 33 (0, 0)) (by (with_reducible repeat (first | apply bN | apply bD | apply bA)); refine blk_put (cs := #[.int .i64 t263, .int .i64 t264, .int .i64 t265, .int .i64 t266, .slice none 0 0]) ?_ 4 _ rfl; (with_reducible repeat (first | apply bN | apply bD | apply bA)); refine blk_put (cs := #[.int .i64 t263, .int .i64 t264, .int .i64 t265, .int .i64 0, .slice none 0 0]) ?_ 3 _ rfl; (with_reducible repeat (first | apply bN | apply bD | apply bA)); refine blk_put (cs := #[.int .i64 t263, .int .i64 t264, .int .i64 0, .int .i64 0, .slice none 0 0]) ?_ 2 _ rfl; (with_reducible repeat (first | apply bN | apply bD | apply bA)); refine blk_put (cs := #[.int .i64 t263, .int .i64 0, .int .i64 0, .int .i64 0, .slice none 0 0]) ?_ 1 _ rfl; (with_reducible repeat (first | apply bN | apply bD | apply bA)); refine blk_put (cs := #[.int .i64 0, .int .i64 0, .int .i64 0, .int .i64 0, .slice none 0 0]) ?_ 0 _ rfl; (with_reducible repeat (first | apply bN | apply bD | apply bA)); exact BK272.out) NB272_0.out (by simp))) (aI (aM (KeepBut.trans (bK HK) hk (.inl rfl))) (aI (aM (hb)) (aM (hi)))))); clear BK262 HO269 BK272 HK HB HI0; obtain ⟨BK262, HO269, BK272, HK, HB, HI0⟩ := n_; (try clear hb hk hi)))
   have n_ := aI (aM (Kd.R_drew HO269.out)) (aI (aM (blk_drew BK262.out)) (aI (aM (blk_drew BK272.out)) (aI (aM (IsS65.drew HI0.out)) (aI (aM (keep_drew HK.out)) (aM (below_drew1 HB.out))))))
   clear HO269 BK262 BK272 HI0 HK HB
   obtain ⟨HO269, BK262, BK272, HI0, HK, HB⟩ := n_
   refine start_ (n := 9) (S := fun w' => w'.cell? ⟨gb272, 0, none⟩ = some (.int .i64 t263) ∧ w'.cell? ⟨gb272, 1, none⟩ = some (.int .i64 t264) ∧ w'.cell? ⟨gb272, 2, none⟩ = some (.int .i64 t265) ∧ w'.cell? ⟨gb272, 3, none⟩ = some (.int .i64 t266) ∧ w'.cell? ⟨gb272, 4, none⟩ = some (.slice Ao82 t267.length co82)) (ds := [8]) #[tF, tF, tF, tF, tF, tF, tF, tF, tF] (by kernel_rfl) rfl rfl ⟨(blk_cell BK272.out 0).trans rfl, (blk_cell BK272.out 1).trans rfl, (blk_cell BK272.out 2).trans rfl, (blk_cell BK272.out 3).trans rfl, (blk_cell BK272.out 4).trans rfl⟩ (fun hHeld => ?_); refine with_tabW spec_l5Draw.tab12 spec_l5Draw.bits12 (fun HT_ HW_ => ?_)
   generalize w83.drew = w84 at HO269 BK262 BK272 HI0 HK HB hHeld ⊢
   refine pY 0 37 #[tT, tF, tF, tF, tF, tF, tF, tF, tF] ?_
   refine pY 2 39 #[tT, tF, tT, tF, tF, tF, tF, tF, tF] ?_
   refine take_ (i := 1) (N := some 38) (v := ?_) (a' := ?_) #[tT, tT, tT, tF, tF, tF, tF, tF, tF] rfl rfl (take_ofW HT_.out HW_.out (by kernel_rfl)) (fun _ _ _ h => h) (Or.inl ⟨by rfl, ?_⟩) hHeld ?_ ?_
   rotate_left
   ·rintro w' ⟨s0, s1, s2, s3, s4⟩
    go_simp
    with_reducible rfl
   rotate_left
   ·simp only [Act.put, List.setIfInBounds_toArray, List.set_cons_zero, List.set_cons_succ, i64_w, i32_w]
    rfl
   refine one_ (i := 3) (N := some 40) #[tT, tT, tT, tT, tF, tF, tF, tF, tF] rfl rfl (one_of HT_.out (by kernel_rfl)) (by decide) (fun K hK => ?_)
   refine Kd.R_lit_step (Kd.int .i64) _ 3 ?hg (N := 40) ?hd (xs := ([0, 36, (-1)] : List Int)) (inner := [.int .i64 0, .int .i64 36, .int .i64 (-1)]) (ok := fun _ => True) (okp := fun _ => True) ?hr ?hp (fun _ hk => hk) trivial (Below.refl _ _) (Nat.le_refl _) (by simp) ?_; (case hd => rfl); (case hg => rfl); (case hr => first | (go_simp; done) | (go_simp; rfl)); (case hp => exact (Reps.one (show Kd.M (Kd.int .i64) _ _ _ 0 [.int .i64 0] from rfl) (Reps.one (show Kd.M (Kd.int .i64) _ _ _ 36 [.int .i64 36] from rfl) (Reps.one (show Kd.M (Kd.int .i64) _ _ _ (-1) [.int .i64 (-1)] from rfl) (Reps.none _ _)))))
   intro v301 w85 ho86 hb hg_ hnew_
   clear hg_ hnew_
   (first | rw [← Ny300.out] at ho86 | (simp only [Int.reduceToNat] at ho86; rw [← Ny300.out] at ho86))
   have n_ := aI (eR HO269 ho86 hb) (aI (aM (Kd.R_lower (Kd.R_new' ho86 (rL HO269)) (keep_size (w := w) (g := g) (row := none) (bK HK)))) (aI (aM (IsS65.below (IsS65.iI HI0) hb)) (aI (kB BK262 hb) (aI (kB BK272 hb) (aI (aM (KeepBut.trans (bK HK) (KeepBut.of_below hb g none) (.inl rfl))) (sB HB hb))))))
   clear HO269 HI0 BK262 BK272 HK HB
   obtain ⟨HO269, HO302, HI0, BK262, BK272, HK, HB⟩ := n_
   clear hb ho86
   obtain ⟨Ao87, co87, eo87⟩ := Kd.R_slice HO302.out
   (first | subst eo87 | (injection eo87 with f1_ f2_ f3_; have f4_ := f1_.symm; have f5_ := f3_.symm; clear f1_ f2_ f3_; subst f4_; subst f5_))
   refine hK.out _ _ ⟨(blk_cell BK272.out 0).trans rfl, (blk_cell BK272.out 1).trans rfl, (blk_cell BK272.out 2).trans rfl, (blk_cell BK272.out 3).trans rfl, (blk_cell BK272.out 4).trans rfl⟩ (fun hHeld => ?_)
   clear hK K
   refine norm_ (a' := ?_) ?_ ?_
   rotate_left
   ·show Act.put _ (some 40) _ = _
    simp only [Act.put, List.setIfInBounds_toArray, List.set_cons_zero, List.set_cons_succ, i64_w, i32_w]
    rfl
   refine one_ (i := 4) (N := some 41) #[tT, tT, tT, tT, tT, tF, tF, tF, tF] rfl rfl (one_of HT_.out (by kernel_rfl)) (by decide) (fun K hK => ?_)
   refine goes_ Try.func49 (by kernel_rfl) rfl #[.pointer (some ⟨g, 0, none⟩), .slice Ao87 y300.length co87] (by rfl) rfl rfl (by (try simp only [List.map_toArray, List.map_cons, List.map_nil]); first | done | rfl | (simp only [List.length_drop, List.length_take]; rfl)) ?_
   with_reducible refine (spec_l1PickInt.calls g s0_0 t274 t275 _ _ y300 t303 t304 t305 w0 _ ?side1 ?side2 ?side3 ?side4 ?side5 A74.out).mono ?_
   (case side1 => exact IsS65.iI HI0)
   (case side2 => exact bB)
   (case side3 => exact cR HO302)
   (case side4 => exact (Kd.R_reads' HO302.out).2.1)
   (case side5 => exact far_slice (IsS65.own_ne HI0.out HO302.out (by decide)))
   rintro e w88 ⟨rfl, hi, hb, hk⟩
   refine ⟨_, rfl, ?_⟩
   have n_ := aI (aM (KeepBut.blk hk (g' := gb262) (o := .cells #[.int .i64 0, .int .i64 0, .int .i64 0, .int .i64 0, .slice none 0 0] 33 (0, 0)) (kP BK262) NB262_0.out (by simp))) (aI (aM (Kd.R_mono (Kd.R_keep (IsS65.apart (show IsS65 w0 _ g s0_0 t274 t275 from IsS65.iI HI0) (rP HO269.out) (by decide)) hk (fun _ h => h.2)) (fun _ h => h.1))) (aI (aM (KeepBut.blk hk (g' := gb272) (o := .cells #[.int .i64 t263, .int .i64 t264, .int .i64 t265, .int .i64 t266, .slice Ao82 t267.length co82] 33 (0, 0)) (kP BK272) NB272_0.out (by simp))) (aI (aM (Kd.R_mono (Kd.R_keep (IsS65.apart (show IsS65 w0 _ g s0_0 t274 t275 from IsS65.iI HI0) (rP HO302.out) (by decide)) hk (fun _ h => h.2)) (fun _ h => h.1))) (aI (aM (KeepBut.trans (bK HK) hk (.inl rfl))) (aI (aM (hb)) (aM (hi)))))))
   clear BK262 HO269 BK272 HO302 HK HB HI0
   obtain ⟨BK262, HO269, BK272, HO302, HK, HB, HI0⟩ := n_
   (try clear hb)
   (try clear hb2)
   (try clear hk)
   (try clear hi)
   refine hK.out _ _ ⟨(blk_cell BK272.out 0).trans rfl, (blk_cell BK272.out 1).trans rfl, (blk_cell BK272.out 2).trans rfl, (blk_cell BK272.out 3).trans rfl, (blk_cell BK272.out 4).trans rfl⟩ (fun hHeld => ?_)
   clear hK K
   refine norm_ (a' := ?_) ?_ ?_
   rotate_left
   ·show Act.put _ (some 41) _ = _
    simp only [Act.put, List.setIfInBounds_toArray, List.set_cons_zero, List.set_cons_succ, i64_w, i32_w]
    rfl
   refine one_ (i := 5) (N := some 42) #[tT, tT, tT, tT, tT, tT, tF, tF, tF] rfl rfl (one_of HT_.out (by kernel_rfl)) (by decide) (fun K hK => ?_)
   refine value_ (w1 := ?_) (v := ?_) (by rfl) rfl ?_ ?_
   rotate_left 2
   ·go_simp
    constructor
    ·rfl
    rfl
   refine hK.out _ _ ⟨(blk_cell (blk_alloc BK272.out _) 0).trans rfl, (blk_cell (blk_alloc BK272.out _) 1).trans rfl, (blk_cell (blk_alloc BK272.out _) 2).trans rfl, (blk_cell (blk_alloc BK272.out _) 3).trans rfl, (blk_cell (blk_alloc BK272.out _) 4).trans rfl⟩ (fun hHeld => ?_)
   clear hK K
   refine norm_ (a' := ?_) ?_ ?_
   rotate_left
   ·show Act.put _ (some 42) _ = _
    simp only [Act.put, List.setIfInBounds_toArray, List.set_cons_zero, List.set_cons_succ, i64_w, i32_w]
    rfl
   refine one_ (i := 6) (N := some 43) #[tT, tT, tT, tT, tT, tT, tT, tF, tF] rfl rfl (one_of HT_.out (by kernel_rfl)) (by decide) (fun K hK => ?_)
   refine Kd.R_append_step (Kd.int .i64) w.heap.size (by rfl) (.tmp 38) (.tmp 42) 31 3 (.int .i64 0) 8 rfl Try.underlying31 info3 rfl (by decide) (by omega) (.slice Ao82 t267.length co82) t267 t303 [.int .i64 t303] (fun k_ => some k_ ≠ (.slice Ao87 y300.length co87 : Value).ownBlock) (fun _ => False) rfl rfl ?aP (fun _ hk => hk.elim) ?aF ?aO (Below.refl _ _) ?aS ?aL ?_
   (case aP => exact rfl)
   (case aF => exact (fun k_ hk => Kd.fresh' (rL HO302) k_ hk))
   (case aO => exact (rP (Kd.R_mono HO269.out (fun _ hk => hk.2))))
   (case aS => exact (keep_size (w := w) (g := g) (row := none) (bK HK)))
   (case aL => have := LMc75.out; omega)
   intro v307 w89 ho hb hg hat
   rw [← Ny306.out] at ho
   have n_ := aI (aM (IsS65.grown (IsS65.iI HI0) hg (IsS65.own_ne HI0.out HO269.out (by decide)))) (aI (aM (blk_grown (g := gb262) (o := .cells #[.int .i64 0, .int .i64 0, .int .i64 0, .int .i64 0, .slice none 0 0] 33 (0, 0)) (kP BK262) hg (Kd.R_ne HO269.out BK262.out (by decide)))) (aI (aM (blk_grown (g := gb272) (o := .cells #[.int .i64 t263, .int .i64 t264, .int .i64 t265, .int .i64 t266, .slice Ao82 t267.length co82] 33 (0, 0)) (kP BK272) hg (Kd.R_ne HO269.out BK272.out (by decide)))) (aI (aM (Kd.R_after (ok := (fun _ => True)) (rP HO302.out) hg hat)) (aI (aM (below_weaken bB HL.out hb)) (aI (aM (KeepBut.trans (bK HK) (KeepBut.of_grown hg g) (Kd.R_base2 HO269.out))) (aM (ho)))))))
   clear HI0 BK262 BK272 HO302 HB HK HO269
   obtain ⟨HI0, BK262, BK272, HO302, HB, HK, HO308⟩ := n_
   clear ho hb hg hat
   obtain ⟨Ao90, co90, eo90⟩ := Kd.R_slice HO308.out
   (first | subst eo90 | (injection eo90 with f1_ f2_ f3_; have f4_ := f1_.symm; have f5_ := f3_.symm; clear f1_ f2_ f3_; subst f4_; subst f5_))
   refine hK.out _ _ ⟨(blk_cell BK272.out 0).trans rfl, (blk_cell BK272.out 1).trans rfl, (blk_cell BK272.out 2).trans rfl, (blk_cell BK272.out 3).trans rfl, (blk_cell BK272.out 4).trans rfl⟩ (fun hHeld => ?_)
   clear hK K
   refine norm_ (a' := ?_) ?_ ?_
   rotate_left
   ·show Act.put _ (some 43) _ = _
    simp only [Act.put, List.setIfInBounds_toArray, List.set_cons_zero, List.set_cons_succ, i64_w, i32_w]
    rfl
   refine pY 7 44 #[tT, tT, tT, tT, tT, tT, tT, tT, tF] ?_
   refine last_ (i := 8) (N := none) #[tT, tT, tT, tT, tT, tT, tT, tT, tT] rfl rfl (one_of HT_.out (by kernel_rfl)) (by decide) (fun K hK => ?_)
   have hs91 : w89.cell? ⟨gb272, 4, none⟩ = some (.slice Ao82 t267.length co82) := (blk_cell BK272.out 4).trans rfl
   have hfs91 := blk_frozen BK272.out 4
   have hns91_0 := NB262_272.out
   have hms91_0 := NB272_262.out
   refine skip_ (w1 := ?_) (by rfl) rfl ?_ ?_
   rotate_left
   ·go_simp
    rfl
   refine hK.out _ _ ?_
   clear hK K
   refine done_ (done_of HT_.out (by kernel_rfl)) ?_
   have hcz92_0 := cZ0 BK272
   have hcz92_1 := cZ1 BK272
   have hcz92_2 : w89.cell? ⟨gb272, 2, none⟩ = some (.int .i64 t265) := (blk_cell BK272.out 2).trans rfl
   have hcz92_3 : w89.cell? ⟨gb272, 3, none⟩ = some (.int .i64 t266) := (blk_cell BK272.out 3).trans rfl
   have hcz92_4 : w89.cell? ⟨gb272, 4, none⟩ = some (.slice Ao82 t267.length co82) := (blk_cell BK272.out 4).trans rfl
   have hfz92_0 := fZ BK272 0
   have hfz92_1 := fZ BK272 1
   have hfz92_2 := fZ BK272 2
   have hfz92_3 := fZ BK272 3
   have hfz92_4 := fZ BK272 4
   have hnb93 := NB262_0.out
   have hnc93 := NB0_262.out
   have hcz94_0 := cZ0 BK262
   have hcz94_1 := cZ1 BK262
   have hcz94_2 : w89.cell? ⟨gb262, 2, none⟩ = some (.int .i64 0) := (blk_cell BK262.out 2).trans rfl
   have hcz94_3 : w89.cell? ⟨gb262, 3, none⟩ = some (.int .i64 0) := (blk_cell BK262.out 3).trans rfl
   have hcz94_4 : w89.cell? ⟨gb262, 4, none⟩ = some (.slice none 0 0) := (blk_cell BK262.out 4).trans rfl
   have hfz94_0 := fZ BK262 0
   have hfz94_1 := fZ BK262 1
   have hfz94_2 := fZ BK262 2
   have hfz94_3 := fZ BK262 3
   have hfz94_4 := fZ BK262 4
   try go_wp2
   refine bodyPost_ret (results_cell_row rfl _ _ gb262 33 #[.int .i64 t263, .int .i64 t264, .int .i64 t265, .int .i64 t266, .slice Ao90 y306.length co90] (0, 0) _ rfl (by (with_reducible repeat (first | apply bN | apply bD | apply bA)); refine blk_put (cs := #[.int .i64 t263, .int .i64 t264, .int .i64 t265, .int .i64 t266, .slice none 0 0]) ?_ 4 _ rfl; (with_reducible repeat (first | apply bN | apply bD | apply bA)); refine blk_put (cs := #[.int .i64 t263, .int .i64 t264, .int .i64 t265, .int .i64 0, .slice none 0 0]) ?_ 3 _ rfl; (with_reducible repeat (first | apply bN | apply bD | apply bA)); refine blk_put (cs := #[.int .i64 t263, .int .i64 t264, .int .i64 0, .int .i64 0, .slice none 0 0]) ?_ 2 _ rfl; (with_reducible repeat (first | apply bN | apply bD | apply bA)); refine blk_put (cs := #[.int .i64 t263, .int .i64 0, .int .i64 0, .int .i64 0, .slice none 0 0]) ?_ 1 _ rfl; (with_reducible repeat (first | apply bN | apply bD | apply bA)); refine blk_put (cs := #[.int .i64 0, .int .i64 0, .int .i64 0, .int .i64 0, .slice none 0 0]) ?_ 0 _ rfl; (with_reducible repeat (first | apply bN | apply bD | apply bA)); refine blk_far ?_ NB262_272.out _; (with_reducible repeat (first | apply bN | apply bD | apply bA)); exact BK262.out) Try.underlying33 rfl (by kernel_rfl)) rfl ?_
   exact ⟨_, eW, by (with_reducible repeat (first | apply Kd.R_alloc | apply Kd.R_drewN | apply Kd.R_drew)); exact Kd.R_mono (Kd.R_far (p := ⟨gb262, 4, none⟩) (Kd.R_far (p := ⟨gb262, 3, none⟩) (Kd.R_far (p := ⟨gb262, 2, none⟩) (Kd.R_far (p := ⟨gb262, 1, none⟩) (Kd.R_far (p := ⟨gb262, 0, none⟩) (Kd.R_far (p := ⟨gb272, 4, none⟩) (Kd.R_types (Kd.R_types HO308.out BK272.out (by decide)) BK262.out (by decide)) (fun _ hk => hk.1.2) (.slice Ao90 y306.length co90)) (fun _ hk => hk.2) (.int .i64 t263)) (fun _ hk => hk.2) (.int .i64 t264)) (fun _ hk => hk.2) (.int .i64 t265)) (fun _ hk => hk.2) (.int .i64 t266)) (fun _ hk => hk.2) (.slice Ao90 y306.length co90)) (fun _ hk => trivial), IsS65.iI HI0, bB, bK HK⟩
  rw [if_neg c75] at H
  exact absurd H (by simp)
 rw [if_neg c73] at H
 have c73b0 : (t273 == 4) = false := beq_eq_false_iff_ne.mpr c73
 have c73b1 : (t273 != 4) = true := bne_iff_ne.mpr c73
 by_cases c95 : t273 = 5
 ·rw [if_pos c95] at H
  have c95b0 : (t273 == 5) = true := beq_iff_eq.mpr c95
  have c95b1 : (t273 != 5) = false := bne_eq_false_iff_eq.mpr c95
  clear c95
  by_cases c96 : (t267.length : Int) > 1
  ·rw [if_pos c96] at H
   have c96b0 : decide (1 < (t267.length : Int)) = true := decide_eq_true c96
   have c96b1 : decide (1 < t267.length) = true := decide_eq_true (by omega)
   clear c96
   by_cases c97 : 1 < (t267.length : Int)
   ·rw [if_pos c97] at H
    have c97b0 : decide (1 < (t267.length : Int)) = true := decide_eq_true c97
    have c97b1 : decide (1 < t267.length) = true := decide_eq_true (by omega)
    clear c97
    by_cases c98 : 0 < (t267.length : Int)
    ·rw [if_pos c98] at H
     have c98b0 : decide (0 < (t267.length : Int)) = true := decide_eq_true c98
     have c98b1 : decide (0 < t267.length) = true := decide_eq_true (by omega)
     clear c98
     obtain ⟨y310, hy310⟩ : ∃ y_ : List Int, y_ = (t267.set (0 : Int).toNat (rd t267 1)) := ⟨_, rfl⟩
     replace H : (some (t263, t264, t265, t266, y310, t274, t275)) = some (r1, r2, r3, r4, r5, r6, r7) := bQ hy310 H
     have Ny310 := aM hy310
     clear hy310
     simp only [Option.some.injEq, Prod.mk.injEq] at H
     obtain ⟨rfl, rfl, rfl, rfl, rfl, rfl, rfl⟩ := H
     go_enter Try.func36, Try.ntmps36
     try go_wp2_with (first | ((with_reducible refine gate_dst (N := 2) rfl ?_); refine bE 2 #[.int .i64 0, .int .i64 0, .int .i64 0, .int .i64 0, .slice none 0 0] 33 ?_; intro gb262 hg w100 hbox hb; have n_ := aI (aM (IsS65.below (IsS65.iI HI0) hb)) (aI (aM (KeepBut.trans (bK HK) (KeepBut.of_below hb g none) (.inl rfl))) (aI (sB HB hb) (aI (aM hbox) (aI (aM ((by rw [hg]; exact (keep_size (w := w) (g := g) (row := none) (bK HK)) : w.heap.size ≤ gb262))) (aI (aM ((Nat.le_trans HW0.out (by rw [hg]; exact (keep_size (w := w) (g := g) (row := none) (bK HK)) : w.heap.size ≤ gb262) : w0.heap.size ≤ gb262))) (aI (aM ((by rw [hg]; exact Nat.ne_of_lt (IsS65.lt (show IsS65 w0 _ g s0_0 s0_1 s0_2 from IsS65.iI HI0)) : g ≠ gb262))) (aM ((by rw [hg]; exact Nat.ne_of_gt (IsS65.lt (show IsS65 w0 _ g s0_0 s0_1 s0_2 from IsS65.iI HI0)) : gb262 ≠ g))))))))); clear HI0 HK HB; obtain ⟨HI0, HK, HB, BK262, GW262, GE262, NB0_262, NB262_0⟩ := n_; (try clear hb hbox hg)) | ((with_reducible refine gate_callee (f := 40) rfl ?_); refine gL (some 5) Try.func40 #[.pointer (some ⟨g, 0, none⟩)] ?_; (with_reducible refine (spec_l5Right.calls k g s0_0 s0_1 s0_2 t263 t264 t265 t266 t267 t270 t271 w0 _ ?side1 ?side2 A2.out).mono ?_); (case side1 => exact IsS65.iI HI0); (case side2 => exact bB); rintro e w101 ⟨v268, rfl, ho0, hi, hb, hk⟩; refine ⟨_, rfl, ?_⟩; have n_ := aI (aM (KeepBut.blk hk (g' := gb262) (o := .cells #[.int .i64 0, .int .i64 0, .int .i64 0, .int .i64 0, .slice none 0 0] 33 (0, 0)) (kP BK262) NB262_0.out (by simp))) (aI (aM (Kd.R_lower ho0 (keep_size (w := w) (g := g) (row := none) (bK HK)))) (aI (aM (KeepBut.trans (bK HK) hk (.inl rfl))) (aI (aM (hb)) (aM (hi))))); clear BK262 HK HB HI0; obtain ⟨BK262, HO269, HK, HB, HI0⟩ := n_; (try clear hb hk hi ho0)) | ((with_reducible refine gate_dst (N := 3) rfl ?_); refine bE 3 #[.int .i64 0, .int .i64 0, .int .i64 0, .int .i64 0, .slice none 0 0] 33 ?_; intro gb272 hg w102 hbox hb; have n_ := aI (rB HO269 hb) (aI (aM (IsS65.below (IsS65.iI HI0) hb)) (aI (kB BK262 hb) (aI (aM (KeepBut.trans (bK HK) (KeepBut.of_below hb g none) (.inl rfl))) (aI (sB HB hb) (aI (aM hbox) (aI (aM ((by rw [hg]; exact (keep_size (w := w) (g := g) (row := none) (bK HK)) : w.heap.size ≤ gb272))) (aI (aM ((Nat.le_trans HW0.out (by rw [hg]; exact (keep_size (w := w) (g := g) (row := none) (bK HK)) : w.heap.size ≤ gb272) : w0.heap.size ≤ gb272))) (aI (nL BK262 hg) (aI (nG BK262 hg) (aI (aM ((by rw [hg]; exact Nat.ne_of_lt (IsS65.lt (show IsS65 w0 _ g s0_0 t270 t271 from IsS65.iI HI0)) : g ≠ gb272))) (aM ((by rw [hg]; exact Nat.ne_of_gt (IsS65.lt (show IsS65 w0 _ g s0_0 t270 t271 from IsS65.iI HI0)) : gb272 ≠ g))))))))))))); clear HO269 HI0 BK262 HK HB; obtain ⟨HO269, HI0, BK262, HK, HB, BK272, GW272, GE272, NB262_272, NB272_262, NB0_272, NB272_0⟩ := n_; (try clear hb hbox hg); have hnb103 := NB272_262.out; have hnc103 := NB262_272.out; have hnb104 := NB272_0.out; have hnc104 := NB0_272.out; have hcz105_0 := cZ0 BK272; have hcz105_1 := cZ1 BK272; have hcz105_2 : w102.cell? ⟨gb272, 2, none⟩ = some (.int .i64 0) := (blk_cell BK272.out 2).trans rfl; have hcz105_3 : w102.cell? ⟨gb272, 3, none⟩ = some (.int .i64 0) := (blk_cell BK272.out 3).trans rfl; have hcz105_4 : w102.cell? ⟨gb272, 4, none⟩ = some (.slice none 0 0) := (blk_cell BK272.out 4).trans rfl; have hfz105_0 := fZ BK272 0; have hfz105_1 := fZ BK272 1; have hfz105_2 := fZ BK272 2; have hfz105_3 := fZ BK272 3; have hfz105_4 := fZ BK272 4; obtain ⟨Ao106, co106, eo106⟩ := Kd.R_slice HO269.out; subst eo106) | ((with_reducible refine gate_callee (f := 41) rfl ?_); refine gL (some 7) Try.func41 #[.pointer (some ⟨g, 0, none⟩), .int .i64 14] ?_; (with_reducible refine (spec_l1Below.calls g s0_0 t270 t271 14 t273 t274 t275 w0 _ ?side1 ?side2 A3.out).mono ?_); (case side1 => exact IsS65.iI HI0); (case side2 => exact bB); rintro e w107 ⟨rfl, hi, hb, hk⟩; refine ⟨_, rfl, ?_⟩; have n_ := aI (aM (KeepBut.blk hk (g' := gb262) (o := .cells #[.int .i64 0, .int .i64 0, .int .i64 0, .int .i64 0, .slice none 0 0] 33 (0, 0)) (kP BK262) NB262_0.out (by simp))) (aI (aM (Kd.R_mono (Kd.R_keep (IsS65.apart (show IsS65 w0 _ g s0_0 t270 t271 from IsS65.iI HI0) (rP (Kd.R_mono (Kd.R_far (p := ⟨gb272, 4, none⟩) (Kd.R_far (p := ⟨gb272, 3, none⟩) (Kd.R_far (p := ⟨gb272, 2, none⟩) (Kd.R_far (p := ⟨gb272, 1, none⟩) (Kd.R_far (p := ⟨gb272, 0, none⟩) (Kd.R_types HO269.out BK272.out (by decide)) (fun _ hk => hk.2) (.int .i64 t263)) (fun _ hk => hk.2) (.int .i64 t264)) (fun _ hk => hk.2) (.int .i64 t265)) (fun _ hk => hk.2) (.int .i64 t266)) (fun _ hk => hk.2) (.slice Ao106 t267.length co106)) (fun _ h_ => h_.1))) (by decide)) hk (fun _ h => h.2)) (fun _ h => h.1))) (aI (aM (KeepBut.blk hk (g' := gb272) (o := .cells #[.int .i64 t263, .int .i64 t264, .int .i64 t265, .int .i64 t266, .slice Ao106 t267.length co106] 33 (0, 0)) (by (with_reducible repeat (first | apply bN | apply bD | apply bA)); refine blk_put (cs := #[.int .i64 t263, .int .i64 t264, .int .i64 t265, .int .i64 t266, .slice none 0 0]) ?_ 4 _ rfl; (with_reducible repeat (first | apply bN | apply bD | apply bA)); refine blk_put (cs := #[.int .i64 t263, .int .i64 t264, .int .i64 t265, .int .i64 0, .slice none 0 0]) ?_ 3 _ rfl; (with_reducible repeat (first | apply bN | apply bD | apply bA)); refine blk_put (cs := #[.int .i64 t263, .int .i64 t264, .int .i64 0, .int .i64 0, .slice none 0 0]) ?_ 2 _ rfl; (with_reducible repeat (first | apply bN | apply bD | apply bA)); refine blk_put (cs := #[.int .i64 t263, .int .i64 0, .int .i64 0, .int .i64 0, .slice none 0 0]) ?_ 1 _ rfl; (with_reducible repeat (first | apply bN | apply bD | apply bA)); refine blk_put (cs := #[.int .i64 0, .int .i64 0, .int .i64 0, .int .i64 0, .slice none 0 0]) ?_ 0 _ rfl; (with_reducible repeat (first | apply bN | apply bD | apply bA)); exact BK272.out) NB272_0.out (by simp))) (aI (aM (KeepBut.trans (bK HK) hk (.inl rfl))) (aI (aM (hb)) (aM (hi)))))); clear BK262 HO269 BK272 HK HB HI0; obtain ⟨BK262, HO269, BK272, HK, HB, HI0⟩ := n_; (try clear hb hk hi); have hcz108_0 := cZ0 BK272; have hcz108_1 := cZ1 BK272; have hcz108_2 : w107.cell? ⟨gb272, 2, none⟩ = some (.int .i64 t265) := (blk_cell BK272.out 2).trans rfl; have hcz108_3 : w107.cell? ⟨gb272, 3, none⟩ = some (.int .i64 t266) := (blk_cell BK272.out 3).trans rfl; have hcz108_4 : w107.cell? ⟨gb272, 4, none⟩ = some (.slice Ao106 t267.length co106) := (blk_cell BK272.out 4).trans rfl; have hfz108_0 := fZ BK272 0; have hfz108_1 := fZ BK272 1; have hfz108_2 := fZ BK272 2; have hfz108_3 := fZ BK272 3; have hfz108_4 := fZ BK272 4))
     have n_ := aI (aM (Kd.R_drew HO269.out)) (aI (aM (blk_drew BK262.out)) (aI (aM (blk_drew BK272.out)) (aI (aM (IsS65.drew HI0.out)) (aI (aM (keep_drew HK.out)) (aM (below_drew1 HB.out))))))
     clear HO269 BK262 BK272 HI0 HK HB
     obtain ⟨HO269, BK262, BK272, HI0, HK, HB⟩ := n_
     have p309 : 0 ≤ (1 : Int) := (by omega)
     have q309 : 1 < (t267.length : Int) := dT
     obtain ⟨ad309, e309, hx309_0⟩ := Kd.at_int (Kd.R_reads' HO269.out).2.2 1 p309 q309
     cases e309
     (try simp only [show (1 : Int).toNat = 1 from rfl, Nat.reduceMul, Nat.reduceEqDiff, Go.Addr.add, ↓reduceIte] at hx309_0)
     have qi309 : (1 < t267.length) = True := eq_true (by omega)
     (try rw [show ((1 : Int)).toNat = 1 from rfl] at hx309_0)
     replace p309 := eq_true p309
     replace q309 := eq_true q309
     have p99 : 0 ≤ (0 : Int) := (by omega)
     have q99 : (0 : Int) < ((t267.length : Int) : Int) := dT
     have qi99 : (0 < t267.length) = True := eq_true (by omega)
     obtain ⟨go99, co99, eo99, gb99, gl99, cl99, HG99⟩ := Kd.R_form HO269.out (by omega)
     (first | cases eo99 | (injection eo99 with ea_ en_ ec_; (first | subst ea_ | (injection ea_ with ea_; subst ea_)); subst ec_; clear en_))
     have GB99 := aM gb99
     have GG99 := aM HG99
     clear gb99 gl99 HG99
     (first | simp only [add_plain] at hx309_0 | skip)
     obtain ⟨hx99_0, hf99_0⟩ := Kd.R_celln 0 HO269.out (0 : Int) p99 q99
     (try rw [show ((0 : Int)).toNat = 0 from rfl] at hx99_0)
     (try simp only [Nat.reduceMul, Nat.zero_mul, Nat.zero_add, Nat.reduceAdd] at hx99_0)
     (try rw [show ((0 : Int)).toNat = 0 from rfl] at hf99_0)
     (try simp only [Nat.reduceMul, Nat.zero_mul, Nat.zero_add, Nat.reduceAdd] at hf99_0)
     replace p99 := eq_true p99
     replace q99 := eq_true q99
     have HN0_go99 := aM (show g ≠ go99 from by have h_ := IsS65.own_ne HI0.out HO269.out (by decide); intro e_; exact h_ (by rw [e_]; rfl))
     have HP110 := Kd.R_putn HO269.out (0 : Int) (rd t267 1)
     rw [← Ny310.out] at HP110
     have HQ110 := aM HP110
     clear HP110
     refine start_ (n := 8) (S := fun w' => w'.cell? ⟨gb272, 0, none⟩ = some (.int .i64 t263) ∧ w'.cell? ⟨gb272, 1, none⟩ = some (.int .i64 t264) ∧ w'.cell? ⟨gb272, 2, none⟩ = some (.int .i64 t265) ∧ w'.cell? ⟨gb272, 3, none⟩ = some (.int .i64 t266) ∧ w'.cell? ⟨gb272, 4, none⟩ = some (.slice (some ⟨go99, 0, none⟩) t267.length co106) ∧ w'.cell? ⟨go99, 1, none⟩ = some (.int .i64 (rd t267 1))) (ds := [7]) #[tF, tF, tF, tF, tF, tF, tF, tF] (by kernel_rfl) rfl rfl ⟨(blk_cell BK272.out 0).trans rfl, (blk_cell BK272.out 1).trans rfl, (blk_cell BK272.out 2).trans rfl, (blk_cell BK272.out 3).trans rfl, (blk_cell BK272.out 4).trans rfl, hx309_0⟩ (fun hHeld => ?_); refine with_tabW spec_l5Draw.tab15 spec_l5Draw.bits15 (fun HT_ HW_ => ?_)
     generalize w107.drew = w109 at HO269 BK262 BK272 HI0 HK HB GG99 HQ110 hf99_0 hx309_0 hx99_0 hHeld ⊢
     refine pY 0 51 #[tT, tF, tF, tF, tF, tF, tF, tF] ?_
     refine pY 2 53 #[tT, tF, tT, tF, tF, tF, tF, tF] ?_
     refine take_ (i := 1) (N := some 52) (v := ?_) (a' := ?_) #[tT, tT, tT, tF, tF, tF, tF, tF] rfl rfl (take_ofW HT_.out HW_.out (by kernel_rfl)) (fun _ _ _ h => h) (Or.inl ⟨by rfl, ?_⟩) hHeld ?_ ?_
     rotate_left
     ·rintro w' ⟨s0, s1, s2, s3, s4, s5⟩
      go_simp
      with_reducible rfl
     rotate_left
     ·simp only [Act.put, List.setIfInBounds_toArray, List.set_cons_zero, List.set_cons_succ, i64_w, i32_w]
      rfl
     refine take_ (i := 3) (N := some 54) (v := ?_) (a' := ?_) #[tT, tT, tT, tT, tF, tF, tF, tF] rfl rfl (take_ofW HT_.out HW_.out (by kernel_rfl)) (fun _ _ _ h => h) (Or.inl ⟨by rfl, ?_⟩) hHeld ?_ ?_
     rotate_left
     ·rintro w' ⟨s0, s1, s2, s3, s4, s5⟩
      go_simp
      with_reducible rfl
     rotate_left
     ·simp only [Act.put, List.setIfInBounds_toArray, List.set_cons_zero, List.set_cons_succ, i64_w, i32_w]
      rfl
     refine pY 4 55 #[tT, tT, tT, tT, tT, tF, tF, tF] ?_
     refine take_ (i := 5) (N := some 56) (v := ?_) (a' := ?_) #[tT, tT, tT, tT, tT, tT, tF, tF] rfl rfl (take_ofW HT_.out HW_.out (by kernel_rfl)) (fun _ _ _ h => h) (Or.inl ⟨by rfl, ?_⟩) hHeld ?_ ?_
     rotate_left
     ·rintro w' ⟨s0, s1, s2, s3, s4, s5⟩
      go_simp
      with_reducible rfl
     rotate_left
     ·simp only [Act.put, List.setIfInBounds_toArray, List.set_cons_zero, List.set_cons_succ, i64_w, i32_w]
      rfl
     refine pY 6 57 #[tT, tT, tT, tT, tT, tT, tT, tF] ?_
     refine last_ (i := 7) (N := none) #[tT, tT, tT, tT, tT, tT, tT, tT] rfl rfl (one_of HT_.out (by kernel_rfl)) (by decide) (fun K hK => ?_)
     refine skip_ (w1 := ?_) (by rfl) rfl ?_ ?_
     rotate_left
     ·go_simp
      rfl
     refine hK.out _ _ ?_
     clear hK K
     refine done_ (done_of HT_.out (by kernel_rfl)) ?_
     have n0_ : Aside0 (Kd.R (Kd.int .i64) 3 (w109.setCell ⟨go99, 0, none⟩ (.int .i64 (rd t267 1))) w.heap.size (fun _ => True) (.slice (some ⟨go99, 0, none⟩) t267.length co106) y310) := ⟨rP HQ110.out⟩
     have n1_ : Aside0 ((w109.setCell ⟨go99, 0, none⟩ (.int .i64 (rd t267 1))).heap[gb262]? = some (.cells #[.int .i64 0, .int .i64 0, .int .i64 0, .int .i64 0, .slice none 0 0] 33 (0, 0))) := ⟨by (with_reducible repeat (first | apply bN | apply bD | apply bA)); refine blk_far ?_ (by have h_ := Kd.R_ne HO269.out BK262.out (by decide); intro e_; exact h_ (by rw [e_]; rfl)) _; (with_reducible repeat (first | apply bN | apply bD | apply bA)); exact BK262.out⟩
     have n2_ : Aside0 ((w109.setCell ⟨go99, 0, none⟩ (.int .i64 (rd t267 1))).heap[gb272]? = some (.cells #[.int .i64 t263, .int .i64 t264, .int .i64 t265, .int .i64 t266, .slice (some ⟨go99, 0, none⟩) t267.length co106] 33 (0, 0))) := ⟨by (with_reducible repeat (first | apply bN | apply bD | apply bA)); refine blk_far ?_ (by have h_ := Kd.R_ne HO269.out BK272.out (by decide); intro e_; exact h_ (by rw [e_]; rfl)) _; (with_reducible repeat (first | apply bN | apply bD | apply bA)); exact BK272.out⟩
     have n3_ : Aside0 (IsS65 w0 (w109.setCell ⟨go99, 0, none⟩ (.int .i64 (rd t267 1))) g s0_0 t274 t275) := ⟨by repeat (first | (with_reducible first | exact HI0.out | apply IsS65.alloc | apply IsS65.drewN | apply IsS65.drew | apply IsS65.set_1 | apply IsS65.set_2 | refine IsS65.far ?_ HN0_go99.out _ | refine IsS65.far ?_ NB0_262.out _ | refine IsS65.far ?_ NB0_272.out _) | exact HI0.out)⟩
     have n4_ : Aside0 (KeepBut w (w109.setCell ⟨go99, 0, none⟩ (.int .i64 (rd t267 1))) g none) := ⟨bK HK⟩
     have n5_ : Aside0 (Below w0.heap.size w0 (w109.setCell ⟨go99, 0, none⟩ (.int .i64 (rd t267 1)))) := ⟨by repeat (first | (with_reducible first | exact HB.out | apply below_alloc | apply pw_below_drewN | apply below_drew1 | refine below_set ?_ (Nat.le_trans HL.out GB99.out) | refine below_set ?_ (IsS65.ge HI0.out) | refine below_set ?_ GE262.out | refine below_set ?_ GE272.out) | exact HB.out)⟩
     (try clear HO269)
     (try clear BK262)
     (try clear BK272)
     (try clear HI0)
     (try clear HK)
     (try clear HB)
     generalize (w109.setCell ⟨go99, 0, none⟩ (.int .i64 (rd t267 1))) = w111 at n0_ n1_ n2_ n3_ n4_ n5_ ⊢
     have HO269 := n0_
     have BK262 := n1_
     have BK272 := n2_
     have HI0 := n3_
     have HK := n4_
     have HB := n5_
     clear n0_ n1_ n2_ n3_ n4_ n5_
     have hcz112_0 := cZ0 BK272
     have hcz112_1 := cZ1 BK272
     have hcz112_2 : w111.cell? ⟨gb272, 2, none⟩ = some (.int .i64 t265) := (blk_cell BK272.out 2).trans rfl
     have hcz112_3 : w111.cell? ⟨gb272, 3, none⟩ = some (.int .i64 t266) := (blk_cell BK272.out 3).trans rfl
     have hcz112_4 : w111.cell? ⟨gb272, 4, none⟩ = some (.slice (some ⟨go99, 0, none⟩) t267.length co106) := (blk_cell BK272.out 4).trans rfl
     have hfz112_0 := fZ BK272 0
     have hfz112_1 := fZ BK272 1
     have hfz112_2 := fZ BK272 2
     have hfz112_3 := fZ BK272 3
     have hfz112_4 := fZ BK272 4
     have hnb113 := NB262_0.out
     have hnc113 := NB0_262.out
     have hcz114_0 := cZ0 BK262
     have hcz114_1 := cZ1 BK262
     have hcz114_2 : w111.cell? ⟨gb262, 2, none⟩ = some (.int .i64 0) := (blk_cell BK262.out 2).trans rfl
     have hcz114_3 : w111.cell? ⟨gb262, 3, none⟩ = some (.int .i64 0) := (blk_cell BK262.out 3).trans rfl
     have hcz114_4 : w111.cell? ⟨gb262, 4, none⟩ = some (.slice none 0 0) := (blk_cell BK262.out 4).trans rfl
     have hfz114_0 := fZ BK262 0
     have hfz114_1 := fZ BK262 1
     have hfz114_2 := fZ BK262 2
     have hfz114_3 := fZ BK262 3
     have hfz114_4 := fZ BK262 4
     try go_wp2
     refine bodyPost_ret (results_cell_row rfl _ _ gb262 33 #[.int .i64 t263, .int .i64 t264, .int .i64 t265, .int .i64 t266, .slice (some ⟨go99, 0, none⟩) t267.length co106] (0, 0) _ rfl (by (with_reducible repeat (first | apply bN | apply bD | apply bA)); refine blk_put (cs := #[.int .i64 t263, .int .i64 t264, .int .i64 t265, .int .i64 t266, .slice none 0 0]) ?_ 4 _ rfl; (with_reducible repeat (first | apply bN | apply bD | apply bA)); refine blk_put (cs := #[.int .i64 t263, .int .i64 t264, .int .i64 t265, .int .i64 0, .slice none 0 0]) ?_ 3 _ rfl; (with_reducible repeat (first | apply bN | apply bD | apply bA)); refine blk_put (cs := #[.int .i64 t263, .int .i64 t264, .int .i64 0, .int .i64 0, .slice none 0 0]) ?_ 2 _ rfl; (with_reducible repeat (first | apply bN | apply bD | apply bA)); refine blk_put (cs := #[.int .i64 t263, .int .i64 0, .int .i64 0, .int .i64 0, .slice none 0 0]) ?_ 1 _ rfl; (with_reducible repeat (first | apply bN | apply bD | apply bA)); refine blk_put (cs := #[.int .i64 0, .int .i64 0, .int .i64 0, .int .i64 0, .slice none 0 0]) ?_ 0 _ rfl; (with_reducible repeat (first | apply bN | apply bD | apply bA)); exact BK262.out) Try.underlying33 rfl (by kernel_rfl)) rfl ?_
     exact ⟨_, eW, by (with_reducible repeat (first | apply Kd.R_alloc | apply Kd.R_drewN | apply Kd.R_drew)); exact Kd.R_mono (Kd.R_far (p := ⟨gb262, 4, none⟩) (Kd.R_far (p := ⟨gb262, 3, none⟩) (Kd.R_far (p := ⟨gb262, 2, none⟩) (Kd.R_far (p := ⟨gb262, 1, none⟩) (Kd.R_far (p := ⟨gb262, 0, none⟩) (Kd.R_types HO269.out BK262.out (by decide)) (fun _ hk => hk.2) (.int .i64 t263)) (fun _ hk => hk.2) (.int .i64 t264)) (fun _ hk => hk.2) (.int .i64 t265)) (fun _ hk => hk.2) (.int .i64 t266)) (fun _ hk => hk.2) (.slice (some ⟨go99, 0, none⟩) t267.length co106)) (fun _ hk => trivial), IsS65.iI HI0, bB, bK HK⟩
    rw [if_neg c98] at H
    exact absurd H (by simp)
   rw [if_neg c97] at H
   exact absurd H (by simp)
  rw [if_neg c96] at H
  have c96b0 : decide (1 < (t267.length : Int)) = false := decide_eq_false c96
  have c96b1 : decide (1 < t267.length) = false := decide_eq_false (by omega)
  clear c96
  simp only [Option.some.injEq, Prod.mk.injEq] at H
  obtain ⟨rfl, rfl, rfl, rfl, rfl, rfl, rfl⟩ := H
  go_enter Try.func36, Try.ntmps36
  go_wp2_with (first | ((with_reducible refine gate_dst (N := 2) rfl ?_); refine bE 2 #[.int .i64 0, .int .i64 0, .int .i64 0, .int .i64 0, .slice none 0 0] 33 ?_; intro gb262 hg w115 hbox hb; have n_ := aI (aM (IsS65.below (IsS65.iI HI0) hb)) (aI (aM (KeepBut.trans (bK HK) (KeepBut.of_below hb g none) (.inl rfl))) (aI (sB HB hb) (aI (aM hbox) (aI (aM ((by rw [hg]; exact (keep_size (w := w) (g := g) (row := none) (bK HK)) : w.heap.size ≤ gb262))) (aI (aM ((Nat.le_trans HW0.out (by rw [hg]; exact (keep_size (w := w) (g := g) (row := none) (bK HK)) : w.heap.size ≤ gb262) : w0.heap.size ≤ gb262))) (aI (aM ((by rw [hg]; exact Nat.ne_of_lt (IsS65.lt (show IsS65 w0 _ g s0_0 s0_1 s0_2 from IsS65.iI HI0)) : g ≠ gb262))) (aM ((by rw [hg]; exact Nat.ne_of_gt (IsS65.lt (show IsS65 w0 _ g s0_0 s0_1 s0_2 from IsS65.iI HI0)) : gb262 ≠ g))))))))); clear HI0 HK HB; obtain ⟨HI0, HK, HB, BK262, GW262, GE262, NB0_262, NB262_0⟩ := n_; (try clear hb hbox hg)) | ((with_reducible refine gate_callee (f := 40) rfl ?_); refine gL (some 5) Try.func40 #[.pointer (some ⟨g, 0, none⟩)] ?_; (with_reducible refine (spec_l5Right.calls k g s0_0 s0_1 s0_2 t263 t264 t265 t266 t267 t270 t271 w0 _ ?side1 ?side2 A2.out).mono ?_); (case side1 => exact IsS65.iI HI0); (case side2 => exact bB); rintro e w116 ⟨v268, rfl, ho0, hi, hb, hk⟩; refine ⟨_, rfl, ?_⟩; have n_ := aI (aM (KeepBut.blk hk (g' := gb262) (o := .cells #[.int .i64 0, .int .i64 0, .int .i64 0, .int .i64 0, .slice none 0 0] 33 (0, 0)) (kP BK262) NB262_0.out (by simp))) (aI (aM (Kd.R_lower ho0 (keep_size (w := w) (g := g) (row := none) (bK HK)))) (aI (aM (KeepBut.trans (bK HK) hk (.inl rfl))) (aI (aM (hb)) (aM (hi))))); clear BK262 HK HB HI0; obtain ⟨BK262, HO269, HK, HB, HI0⟩ := n_; (try clear hb hk hi ho0)) | ((with_reducible refine gate_dst (N := 3) rfl ?_); refine bE 3 #[.int .i64 0, .int .i64 0, .int .i64 0, .int .i64 0, .slice none 0 0] 33 ?_; intro gb272 hg w117 hbox hb; have n_ := aI (rB HO269 hb) (aI (aM (IsS65.below (IsS65.iI HI0) hb)) (aI (kB BK262 hb) (aI (aM (KeepBut.trans (bK HK) (KeepBut.of_below hb g none) (.inl rfl))) (aI (sB HB hb) (aI (aM hbox) (aI (aM ((by rw [hg]; exact (keep_size (w := w) (g := g) (row := none) (bK HK)) : w.heap.size ≤ gb272))) (aI (aM ((Nat.le_trans HW0.out (by rw [hg]; exact (keep_size (w := w) (g := g) (row := none) (bK HK)) : w.heap.size ≤ gb272) : w0.heap.size ≤ gb272))) (aI (nL BK262 hg) (aI (nG BK262 hg) (aI (aM ((by rw [hg]; exact Nat.ne_of_lt (IsS65.lt (show IsS65 w0 _ g s0_0 t270 t271 from IsS65.iI HI0)) : g ≠ gb272))) (aM ((by rw [hg]; exact Nat.ne_of_gt (IsS65.lt (show IsS65 w0 _ g s0_0 t270 t271 from IsS65.iI HI0)) : gb272 ≠ g))))))))))))); clear HO269 HI0 BK262 HK HB; obtain ⟨HO269, HI0, BK262, HK, HB, BK272, GW272, GE272, NB262_272, NB272_262, NB0_272, NB272_0⟩ := n_; (try clear hb hbox hg); have hnb118 := NB272_262.out; have hnc118 := NB262_272.out; have hnb119 := NB272_0.out; have hnc119 := NB0_272.out; have hcz120_0 := cZ0 BK272; have hcz120_1 := cZ1 BK272; have hcz120_2 : w117.cell? ⟨gb272, 2, none⟩ = some (.int .i64 0) := (blk_cell BK272.out 2).trans rfl; have hcz120_3 : w117.cell? ⟨gb272, 3, none⟩ = some (.int .i64 0) := (blk_cell BK272.out 3).trans rfl; have hcz120_4 : w117.cell? ⟨gb272, 4, none⟩ = some (.slice none 0 0) := (blk_cell BK272.out 4).trans rfl; have hfz120_0 := fZ BK272 0; have hfz120_1 := fZ BK272 1; have hfz120_2 := fZ BK272 2; have hfz120_3 := fZ BK272 3; have hfz120_4 := fZ BK272 4; obtain ⟨Ao121, co121, eo121⟩ := Kd.R_slice HO269.out; subst eo121) | ((with_reducible refine gate_callee (f := 41) rfl ?_); refine gL (some 7) Try.func41 #[.pointer (some ⟨g, 0, none⟩), .int .i64 14] ?_; (with_reducible refine (spec_l1Below.calls g s0_0 t270 t271 14 t273 t274 t275 w0 _ ?side1 ?side2 A3.out).mono ?_); (case side1 => exact IsS65.iI HI0); (case side2 => exact bB); rintro e w122 ⟨rfl, hi, hb, hk⟩; refine ⟨_, rfl, ?_⟩; have n_ := aI (aM (KeepBut.blk hk (g' := gb262) (o := .cells #[.int .i64 0, .int .i64 0, .int .i64 0, .int .i64 0, .slice none 0 0] 33 (0, 0)) (kP BK262) NB262_0.out (by simp))) (aI (aM (Kd.R_mono (Kd.R_keep (IsS65.apart (show IsS65 w0 _ g s0_0 t270 t271 from IsS65.iI HI0) (rP (Kd.R_mono (Kd.R_far (p := ⟨gb272, 4, none⟩) (Kd.R_far (p := ⟨gb272, 3, none⟩) (Kd.R_far (p := ⟨gb272, 2, none⟩) (Kd.R_far (p := ⟨gb272, 1, none⟩) (Kd.R_far (p := ⟨gb272, 0, none⟩) (Kd.R_types HO269.out BK272.out (by decide)) (fun _ hk => hk.2) (.int .i64 t263)) (fun _ hk => hk.2) (.int .i64 t264)) (fun _ hk => hk.2) (.int .i64 t265)) (fun _ hk => hk.2) (.int .i64 t266)) (fun _ hk => hk.2) (.slice Ao121 t267.length co121)) (fun _ h_ => h_.1))) (by decide)) hk (fun _ h => h.2)) (fun _ h => h.1))) (aI (aM (KeepBut.blk hk (g' := gb272) (o := .cells #[.int .i64 t263, .int .i64 t264, .int .i64 t265, .int .i64 t266, .slice Ao121 t267.length co121] 33 (0, 0)) (by (with_reducible repeat (first | apply bN | apply bD | apply bA)); refine blk_put (cs := #[.int .i64 t263, .int .i64 t264, .int .i64 t265, .int .i64 t266, .slice none 0 0]) ?_ 4 _ rfl; (with_reducible repeat (first | apply bN | apply bD | apply bA)); refine blk_put (cs := #[.int .i64 t263, .int .i64 t264, .int .i64 t265, .int .i64 0, .slice none 0 0]) ?_ 3 _ rfl; (with_reducible repeat (first | apply bN | apply bD | apply bA)); refine blk_put (cs := #[.int .i64 t263, .int .i64 t264, .int .i64 0, .int .i64 0, .slice none 0 0]) ?_ 2 _ rfl; (with_reducible repeat (first | apply bN | apply bD | apply bA)); refine blk_put (cs := #[.int .i64 t263, .int .i64 0, .int .i64 0, .int .i64 0, .slice none 0 0]) ?_ 1 _ rfl; (with_reducible repeat (first | apply bN | apply bD | apply bA)); refine blk_put (cs := #[.int .i64 0, .int .i64 0, .int .i64 0, .int .i64 0, .slice none 0 0]) ?_ 0 _ rfl; (with_reducible repeat (first | apply bN | apply bD | apply bA)); exact BK272.out) NB272_0.out (by simp))) (aI (aM (KeepBut.trans (bK HK) hk (.inl rfl))) (aI (aM (hb)) (aM (hi)))))); clear BK262 HO269 BK272 HK HB HI0; obtain ⟨BK262, HO269, BK272, HK, HB, HI0⟩ := n_; (try clear hb hk hi); have hcz123_0 := cZ0 BK272; have hcz123_1 := cZ1 BK272; have hcz123_2 : w122.cell? ⟨gb272, 2, none⟩ = some (.int .i64 t265) := (blk_cell BK272.out 2).trans rfl; have hcz123_3 : w122.cell? ⟨gb272, 3, none⟩ = some (.int .i64 t266) := (blk_cell BK272.out 3).trans rfl; have hcz123_4 : w122.cell? ⟨gb272, 4, none⟩ = some (.slice Ao121 t267.length co121) := (blk_cell BK272.out 4).trans rfl; have hfz123_0 := fZ BK272 0; have hfz123_1 := fZ BK272 1; have hfz123_2 := fZ BK272 2; have hfz123_3 := fZ BK272 3; have hfz123_4 := fZ BK272 4; have hnb124 := NB262_0.out; have hnc124 := NB0_262.out; have hcz125_0 := cZ0 BK262; have hcz125_1 := cZ1 BK262; have hcz125_2 : w122.cell? ⟨gb262, 2, none⟩ = some (.int .i64 0) := (blk_cell BK262.out 2).trans rfl; have hcz125_3 : w122.cell? ⟨gb262, 3, none⟩ = some (.int .i64 0) := (blk_cell BK262.out 3).trans rfl; have hcz125_4 : w122.cell? ⟨gb262, 4, none⟩ = some (.slice none 0 0) := (blk_cell BK262.out 4).trans rfl; have hfz125_0 := fZ BK262 0; have hfz125_1 := fZ BK262 1; have hfz125_2 := fZ BK262 2; have hfz125_3 := fZ BK262 3; have hfz125_4 := fZ BK262 4))
  refine bodyPost_ret (results_cell_row rfl _ _ gb262 33 #[.int .i64 t263, .int .i64 t264, .int .i64 t265, .int .i64 t266, .slice Ao121 t267.length co121] (0, 0) _ rfl (by (with_reducible repeat (first | apply bN | apply bD | apply bA)); refine blk_put (cs := #[.int .i64 t263, .int .i64 t264, .int .i64 t265, .int .i64 t266, .slice none 0 0]) ?_ 4 _ rfl; (with_reducible repeat (first | apply bN | apply bD | apply bA)); refine blk_put (cs := #[.int .i64 t263, .int .i64 t264, .int .i64 t265, .int .i64 0, .slice none 0 0]) ?_ 3 _ rfl; (with_reducible repeat (first | apply bN | apply bD | apply bA)); refine blk_put (cs := #[.int .i64 t263, .int .i64 t264, .int .i64 0, .int .i64 0, .slice none 0 0]) ?_ 2 _ rfl; (with_reducible repeat (first | apply bN | apply bD | apply bA)); refine blk_put (cs := #[.int .i64 t263, .int .i64 0, .int .i64 0, .int .i64 0, .slice none 0 0]) ?_ 1 _ rfl; (with_reducible repeat (first | apply bN | apply bD | apply bA)); refine blk_put (cs := #[.int .i64 0, .int .i64 0, .int .i64 0, .int .i64 0, .slice none 0 0]) ?_ 0 _ rfl; (with_reducible repeat (first | apply bN | apply bD | apply bA)); exact BK262.out) Try.underlying33 rfl (by kernel_rfl)) rfl ?_
  exact ⟨_, eW, by (with_reducible repeat (first | apply Kd.R_alloc | apply Kd.R_drewN | apply Kd.R_drew)); exact Kd.R_mono (Kd.R_far (p := ⟨gb262, 4, none⟩) (Kd.R_far (p := ⟨gb262, 3, none⟩) (Kd.R_far (p := ⟨gb262, 2, none⟩) (Kd.R_far (p := ⟨gb262, 1, none⟩) (Kd.R_far (p := ⟨gb262, 0, none⟩) (Kd.R_types HO269.out BK262.out (by decide)) (fun _ hk => hk.2) (.int .i64 t263)) (fun _ hk => hk.2) (.int .i64 t264)) (fun _ hk => hk.2) (.int .i64 t265)) (fun _ hk => hk.2) (.int .i64 t266)) (fun _ hk => hk.2) (.slice Ao121 t267.length co121)) (fun _ hk => trivial), IsS65.iI HI0, bB, bK HK⟩
 rw [if_neg c95] at H
 have c95b0 : (t273 == 5) = false := beq_eq_false_iff_ne.mpr c95
 have c95b1 : (t273 != 5) = true := bne_iff_ne.mpr c95
 simp only [Option.some.injEq, Prod.mk.injEq] at H
 obtain ⟨rfl, rfl, rfl, rfl, rfl, rfl, rfl⟩ := H
 go_enter Try.func36, Try.ntmps36
 go_wp2_with (first | ((with_reducible refine gate_dst (N := 2) rfl ?_); refine bE 2 #[.int .i64 0, .int .i64 0, .int .i64 0, .int .i64 0, .slice none 0 0] 33 ?_; intro gb262 hg w126 hbox hb; have n_ := aI (aM (IsS65.below (IsS65.iI HI0) hb)) (aI (aM (KeepBut.trans (bK HK) (KeepBut.of_below hb g none) (.inl rfl))) (aI (sB HB hb) (aI (aM hbox) (aI (aM ((by rw [hg]; exact (keep_size (w := w) (g := g) (row := none) (bK HK)) : w.heap.size ≤ gb262))) (aI (aM ((Nat.le_trans HW0.out (by rw [hg]; exact (keep_size (w := w) (g := g) (row := none) (bK HK)) : w.heap.size ≤ gb262) : w0.heap.size ≤ gb262))) (aI (aM ((by rw [hg]; exact Nat.ne_of_lt (IsS65.lt (show IsS65 w0 _ g s0_0 s0_1 s0_2 from IsS65.iI HI0)) : g ≠ gb262))) (aM ((by rw [hg]; exact Nat.ne_of_gt (IsS65.lt (show IsS65 w0 _ g s0_0 s0_1 s0_2 from IsS65.iI HI0)) : gb262 ≠ g))))))))); clear HI0 HK HB; obtain ⟨HI0, HK, HB, BK262, GW262, GE262, NB0_262, NB262_0⟩ := n_; (try clear hb hbox hg)) | ((with_reducible refine gate_callee (f := 40) rfl ?_); refine gL (some 5) Try.func40 #[.pointer (some ⟨g, 0, none⟩)] ?_; (with_reducible refine (spec_l5Right.calls k g s0_0 s0_1 s0_2 t263 t264 t265 t266 t267 t270 t271 w0 _ ?side1 ?side2 A2.out).mono ?_); (case side1 => exact IsS65.iI HI0); (case side2 => exact bB); rintro e w127 ⟨v268, rfl, ho0, hi, hb, hk⟩; refine ⟨_, rfl, ?_⟩; have n_ := aI (aM (KeepBut.blk hk (g' := gb262) (o := .cells #[.int .i64 0, .int .i64 0, .int .i64 0, .int .i64 0, .slice none 0 0] 33 (0, 0)) (kP BK262) NB262_0.out (by simp))) (aI (aM (Kd.R_lower ho0 (keep_size (w := w) (g := g) (row := none) (bK HK)))) (aI (aM (KeepBut.trans (bK HK) hk (.inl rfl))) (aI (aM (hb)) (aM (hi))))); clear BK262 HK HB HI0; obtain ⟨BK262, HO269, HK, HB, HI0⟩ := n_; (try clear hb hk hi ho0)) | ((with_reducible refine gate_dst (N := 3) rfl ?_); refine bE 3 #[.int .i64 0, .int .i64 0, .int .i64 0, .int .i64 0, .slice none 0 0] 33 ?_; intro gb272 hg w128 hbox hb; have n_ := aI (rB HO269 hb) (aI (aM (IsS65.below (IsS65.iI HI0) hb)) (aI (kB BK262 hb) (aI (aM (KeepBut.trans (bK HK) (KeepBut.of_below hb g none) (.inl rfl))) (aI (sB HB hb) (aI (aM hbox) (aI (aM ((by rw [hg]; exact (keep_size (w := w) (g := g) (row := none) (bK HK)) : w.heap.size ≤ gb272))) (aI (aM ((Nat.le_trans HW0.out (by rw [hg]; exact (keep_size (w := w) (g := g) (row := none) (bK HK)) : w.heap.size ≤ gb272) : w0.heap.size ≤ gb272))) (aI (nL BK262 hg) (aI (nG BK262 hg) (aI (aM ((by rw [hg]; exact Nat.ne_of_lt (IsS65.lt (show IsS65 w0 _ g s0_0 t270 t271 from IsS65.iI HI0)) : g ≠ gb272))) (aM ((by rw [hg]; exact Nat.ne_of_gt (IsS65.lt (show IsS65 w0 _ g s0_0 t270 t271 from IsS65.iI HI0)) : gb272 ≠ g))))))))))))); clear HO269 HI0 BK262 HK HB; obtain ⟨HO269, HI0, BK262, HK, HB, BK272, GW272, GE272, NB262_272, NB272_262, NB0_272, NB272_0⟩ := n_; (try clear hb hbox hg); have hnb129 := NB272_262.out; have hnc129 := NB262_272.out; have hnb130 := NB272_0.out; have hnc130 := NB0_272.out; have hcz131_0 := cZ0 BK272; have hcz131_1 := cZ1 BK272; have hcz131_2 : w128.cell? ⟨gb272, 2, none⟩ = some (.int .i64 0) := (blk_cell BK272.out 2).trans rfl; have hcz131_3 : w128.cell? ⟨gb272, 3, none⟩ = some (.int .i64 0) := (blk_cell BK272.out 3).trans rfl; have hcz131_4 : w128.cell? ⟨gb272, 4, none⟩ = some (.slice none 0 0) := (blk_cell BK272.out 4).trans rfl; have hfz131_0 := fZ BK272 0; have hfz131_1 := fZ BK272 1; have hfz131_2 := fZ BK272 2; have hfz131_3 := fZ BK272 3; have hfz131_4 := fZ BK272 4; obtain ⟨Ao132, co132, eo132⟩ := Kd.R_slice HO269.out; subst eo132) | ((with_reducible refine gate_callee (f := 41) rfl ?_); refine gL (some 7) Try.func41 #[.pointer (some ⟨g, 0, none⟩), .int .i64 14] ?_; (with_reducible refine (spec_l1Below.calls g s0_0 t270 t271 14 t273 t274 t275 w0 _ ?side1 ?side2 A3.out).mono ?_); (case side1 => exact IsS65.iI HI0); (case side2 => exact bB); rintro e w133 ⟨rfl, hi, hb, hk⟩; refine ⟨_, rfl, ?_⟩; have n_ := aI (aM (KeepBut.blk hk (g' := gb262) (o := .cells #[.int .i64 0, .int .i64 0, .int .i64 0, .int .i64 0, .slice none 0 0] 33 (0, 0)) (kP BK262) NB262_0.out (by simp))) (aI (aM (Kd.R_mono (Kd.R_keep (IsS65.apart (show IsS65 w0 _ g s0_0 t270 t271 from IsS65.iI HI0) (rP (Kd.R_mono (Kd.R_far (p := ⟨gb272, 4, none⟩) (Kd.R_far (p := ⟨gb272, 3, none⟩) (Kd.R_far (p := ⟨gb272, 2, none⟩) (Kd.R_far (p := ⟨gb272, 1, none⟩) (Kd.R_far (p := ⟨gb272, 0, none⟩) (Kd.R_types HO269.out BK272.out (by decide)) (fun _ hk => hk.2) (.int .i64 t263)) (fun _ hk => hk.2) (.int .i64 t264)) (fun _ hk => hk.2) (.int .i64 t265)) (fun _ hk => hk.2) (.int .i64 t266)) (fun _ hk => hk.2) (.slice Ao132 t267.length co132)) (fun _ h_ => h_.1))) (by decide)) hk (fun _ h => h.2)) (fun _ h => h.1))) (aI (aM (KeepBut.blk hk (g' := gb272) (o := .cells #[.int .i64 t263, .int .i64 t264, .int .i64 t265, .int .i64 t266, .slice Ao132 t267.length co132] 33 (0, 0)) (by (with_reducible repeat (first | apply bN | apply bD | apply bA)); refine blk_put (cs := #[.int .i64 t263, .int .i64 t264, .int .i64 t265, .int .i64 t266, .slice none 0 0]) ?_ 4 _ rfl; (with_reducible repeat (first | apply bN | apply bD | apply bA)); refine blk_put (cs := #[.int .i64 t263, .int .i64 t264, .int .i64 t265, .int .i64 0, .slice none 0 0]) ?_ 3 _ rfl; (with_reducible repeat (first | apply bN | apply bD | apply bA)); refine blk_put (cs := #[.int .i64 t263, .int .i64 t264, .int .i64 0, .int .i64 0, .slice none 0 0]) ?_ 2 _ rfl; (with_reducible repeat (first | apply bN | apply bD | apply bA)); refine blk_put (cs := #[.int .i64 t263, .int .i64 0, .int .i64 0, .int .i64 0, .slice none 0 0]) ?_ 1 _ rfl; (with_reducible repeat (first | apply bN | apply bD | apply bA)); refine blk_put (cs := #[.int .i64 0, .int .i64 0, .int .i64 0, .int .i64 0, .slice none 0 0]) ?_ 0 _ rfl; (with_reducible repeat (first | apply bN | apply bD | apply bA)); exact BK272.out) NB272_0.out (by simp))) (aI (aM (KeepBut.trans (bK HK) hk (.inl rfl))) (aI (aM (hb)) (aM (hi)))))); clear BK262 HO269 BK272 HK HB HI0; obtain ⟨BK262, HO269, BK272, HK, HB, HI0⟩ := n_; (try clear hb hk hi); have hcz134_0 := cZ0 BK272; have hcz134_1 := cZ1 BK272; have hcz134_2 : w133.cell? ⟨gb272, 2, none⟩ = some (.int .i64 t265) := (blk_cell BK272.out 2).trans rfl; have hcz134_3 : w133.cell? ⟨gb272, 3, none⟩ = some (.int .i64 t266) := (blk_cell BK272.out 3).trans rfl; have hcz134_4 : w133.cell? ⟨gb272, 4, none⟩ = some (.slice Ao132 t267.length co132) := (blk_cell BK272.out 4).trans rfl; have hfz134_0 := fZ BK272 0; have hfz134_1 := fZ BK272 1; have hfz134_2 := fZ BK272 2; have hfz134_3 := fZ BK272 3; have hfz134_4 := fZ BK272 4; have hnb135 := NB262_0.out; have hnc135 := NB0_262.out; have hcz136_0 := cZ0 BK262; have hcz136_1 := cZ1 BK262; have hcz136_2 : w133.cell? ⟨gb262, 2, none⟩ = some (.int .i64 0) := (blk_cell BK262.out 2).trans rfl; have hcz136_3 : w133.cell? ⟨gb262, 3, none⟩ = some (.int .i64 0) := (blk_cell BK262.out 3).trans rfl; have hcz136_4 : w133.cell? ⟨gb262, 4, none⟩ = some (.slice none 0 0) := (blk_cell BK262.out 4).trans rfl; have hfz136_0 := fZ BK262 0; have hfz136_1 := fZ BK262 1; have hfz136_2 := fZ BK262 2; have hfz136_3 := fZ BK262 3; have hfz136_4 := fZ BK262 4))
 refine bodyPost_ret (results_cell_row rfl _ _ gb262 33 #[.int .i64 t263, .int .i64 t264, .int .i64 t265, .int .i64 t266, .slice Ao132 t267.length co132] (0, 0) _ rfl (by (with_reducible repeat (first | apply bN | apply bD | apply bA)); refine blk_put (cs := #[.int .i64 t263, .int .i64 t264, .int .i64 t265, .int .i64 t266, .slice none 0 0]) ?_ 4 _ rfl; (with_reducible repeat (first | apply bN | apply bD | apply bA)); refine blk_put (cs := #[.int .i64 t263, .int .i64 t264, .int .i64 t265, .int .i64 0, .slice none 0 0]) ?_ 3 _ rfl; (with_reducible repeat (first | apply bN | apply bD | apply bA)); refine blk_put (cs := #[.int .i64 t263, .int .i64 t264, .int .i64 0, .int .i64 0, .slice none 0 0]) ?_ 2 _ rfl; (with_reducible repeat (first | apply bN | apply bD | apply bA)); refine blk_put (cs := #[.int .i64 t263, .int .i64 0, .int .i64 0, .int .i64 0, .slice none 0 0]) ?_ 1 _ rfl; (with_reducible repeat (first | apply bN | apply bD | apply bA)); refine blk_put (cs := #[.int .i64 0, .int .i64 0, .int .i64 0, .int .i64 0, .slice none 0 0]) ?_ 0 _ rfl; (with_reducible repeat (first | apply bN | apply bD | apply bA)); exact BK262.out) Try.underlying33 rfl (by kernel_rfl)) rfl ?_
 exact ⟨_, eW, by (with_reducible repeat (first | apply Kd.R_alloc | apply Kd.R_drewN | apply Kd.R_drew)); exact Kd.R_mono (Kd.R_far (p := ⟨gb262, 4, none⟩) (Kd.R_far (p := ⟨gb262, 3, none⟩) (Kd.R_far (p := ⟨gb262, 2, none⟩) (Kd.R_far (p := ⟨gb262, 1, none⟩) (Kd.R_far (p := ⟨gb262, 0, none⟩) (Kd.R_types HO269.out BK262.out (by decide)) (fun _ hk => hk.2) (.int .i64 t263)) (fun _ hk => hk.2) (.int .i64 t264)) (fun _ hk => hk.2) (.int .i64 t265)) (fun _ hk => hk.2) (.int .i64 t266)) (fun _ hk => hk.2) (.slice Ao132 t267.length co132)) (fun _ hk => trivial), IsS65.iI HI0, bB, bK HK⟩

end Go.Proofs.Ytadfimhielcmmaa.PFnNodes
