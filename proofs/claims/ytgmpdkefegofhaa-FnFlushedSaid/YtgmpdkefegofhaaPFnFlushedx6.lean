-- Written by xprint.py, a program of this session over the kit's print. Not trusted: Lean checks it.
import Derived.Test.YtgmpdkefegofhaaPFnFlushedx0
import Derived.Test.YtgmpdkefegofhaaPFnFlushedx4
import Derived.Test.YtgmpdkefegofhaaPFnFlushedx5
namespace Go.Proofs.Ytgmpdkefegofhaa.PFnFlushed
open Go.RowKit Go.Proofs.YtgmpdkefegofhaaW.PrintWords Go.Proofs.YtgmpdkefegofhaaW.PrintLast Go.Proofs.YtgmpdkefegofhaaW.PrintMore
attribute [local go_sem] max2_int min2_int max_two min_two max_three min_three max_four min_four   -- for this text's walks alone
set_option linter.unusedVariables false
set_option linter.unusedSimpArgs false

/-! ### spec_l3Draw: function 89 -/
def spec_l3Draw.j0 : Nat → List Int → Int → Int → List ByteArray → List (S65) → Option (List ByteArray × (List (S65)) × Int × Int)
 | 0, _, _, _, _, _ => none
 | k + 1, x1000, x1001, x1002, x306000, x306001 => some (x306000, x306001, x1001, x1002)
def spec_l3Draw.f (k : Nat) (s0_0 : List Int) (s0_1 : Int) (s0_2 : Int) : Option (List ByteArray × (List (S65)) × Int × Int) := (spec_l3Right.f k s0_0 s0_1 s0_2).bind fun bt297 => ((spec_l1PickInt.f s0_0 bt297.2.2.1 bt297.2.2.2 (([90, 91] : List Int))).bind fun bt309 => (if 0 ≤ bt309.1 then (if (bt309.1 : Int).toNat ≤ 281474976710656 then ((some (List.replicate (bt309.1 : Int).toNat 0 : List Int)).bind fun y312 => ((spec_l1Below.f s0_0 bt309.2.1 bt309.2.2 12).bind fun bt315 => (if bt315.1 = 0 then (if 0 < (bt297.1.length : Int) then (spec_l3Draw.j0 k s0_0 bt315.2.1 bt315.2.2 (bt297.1.set (0 : Int).toNat (strOfNums y312)) bt297.2.1) else (none)) else (if bt315.1 = 1 then ((spec_l1PickInt.f s0_0 bt315.2.1 bt315.2.2 (([(-1), (bt297.1.length : Int), 9223372036854775807] : List Int))).bind fun bt322 => (if bt297.2.1.length < 5864062014805 then (spec_l3Draw.j0 k s0_0 bt322.2.1 bt322.2.2 bt297.1 (bt297.2.1 ++ [(⟨bt322.1, (⟨#[]⟩ : ByteArray)⟩ : S65)])) else (none))) else (if bt315.1 = 2 then (if bt297.2.1.length < 5864062014805 then (spec_l3Draw.j0 k s0_0 bt315.2.1 bt315.2.2 bt297.1 (bt297.2.1 ++ [(⟨0, strOfNums y312⟩ : S65)])) else (none)) else (if bt315.1 = 3 then ((spec_l1PickInt.f s0_0 bt315.2.1 bt315.2.2 (([120, 121] : List Int))).bind fun bt334 => (if 0 ≤ bt334.1 then (if (bt334.1 : Int).toNat ≤ 17592186044416 then (spec_l3Draw.j0 k s0_0 bt334.2.1 bt334.2.2 (List.replicate (bt334.1 : Int).toNat (⟨#[]⟩ : ByteArray)) bt297.2.1) else (none)) else (none))) else (if bt315.1 = 4 then ((spec_l1PickInt.f s0_0 bt315.2.1 bt315.2.2 (([399, 400, 401] : List Int))).bind fun bt343 => (if 0 ≤ bt343.1 then (if (bt343.1 : Int).toNat ≤ 11728124029610 then (spec_l3Draw.j0 k s0_0 bt343.2.1 bt343.2.2 bt297.1 (List.replicate (bt343.1 : Int).toNat z65)) else (none)) else (none))) else (spec_l3Draw.j0 k s0_0 bt315.2.1 bt315.2.2 bt297.1 bt297.2.1)))))))) else (none)) else (none)))
theorem spec_l3Draw.mono_l : ∀ k, (∀ y0 y1 y2 y3 y4, LeO (spec_l3Draw.j0 k y0 y1 y2 y3 y4) (spec_l3Draw.j0 (k + 1) y0 y1 y2 y3 y4))
 | 0 => fun _ _ _ _ _ r h => by simp [spec_l3Draw.j0] at h
 | k + 1 => by
  have ih0 := spec_l3Draw.mono_l k
  ·intro y0 y1 y2 y3 y4
   unfold spec_l3Draw.j0
   have m0_ := @spec_l3Right.mono
   exact mM
theorem spec_l3Draw.mono : ∀ a0 a1 a2 k, LeO (spec_l3Draw.f k a0 a1 a2) (spec_l3Draw.f (k + 1) a0 a1 a2) := by
 intro a0 a1 a2 k
 have ih0 := spec_l3Draw.mono_l k
 unfold spec_l3Draw.f
 have m0_ := @spec_l3Right.mono
 exact mM
def spec_l3Draw.T7 : Bool × List (List Nat × List Nat) := (true, [([], []), ([0], [0]), ([], []), ([], []), ([3], [3]), ([4], [4]), ([5], [5]), ([2, 6], [2, 6]), ([7], [7]), ([8], [8]), ([1, 9, 7], [1, 9]), ([0, 1, 2, 3, 4, 5, 6, 7, 8, 9, 10], []), ([11, 10, 10, 0, 1, 2, 3, 4, 5, 6, 7, 8, 9, 10], [10, 11])])
def spec_l3Draw.B7 : List Nat := [0, 1, 0, 0, 8, 24, 56, 124, 252, 508, 1023, 2047, 4095]
theorem spec_l3Draw.tab7 : rtab .any (opsOf Try.f89 7) = spec_l3Draw.T7 := by kernel_rfl
theorem spec_l3Draw.bits7 : waitsOk spec_l3Draw.T7.2 spec_l3Draw.B7 = true := by kernel_rfl
set_option maxHeartbeats 8000000 in
set_option maxRecDepth 100000 in
theorem spec_l3Draw.calls (k : Nat) (g : Nat) (s0_0 : List Int) (s0_1 : Int) (s0_2 : Int) (r1 : List ByteArray) (r2 : List (S65)) (r3 : Int) (r4 : Int) (w0 w : World) (hI : IsS123 w0 w g s0_0 s0_1 s0_2) (hB : Below w0.heap.size w0 w) (h : spec_l3Draw.f k s0_0 s0_1 s0_2 = some (r1, r2, r3, r4)) :
  Calls Try.prog 89 #[.pointer (some ⟨g, 0, none⟩)] w fun e w' => ∃ v0_ v1_ : Value, e = .returned (.agg #[v0_, v1_]) ∧ Kd.R Kd.string 9 w' w.heap.size (fun _ => True) v0_ r1 ∧ Kd.R k65 65 w' w.heap.size (fun _ => True) v1_ r2 ∧ IsS123 w0 w' g s0_0 r3 r4 ∧ Below w0.heap.size w0 w' ∧ KeepBut w w' g none := by
 have hu30 := Try.underlying30
 have hu65 := Try.underlying65
 have HI0 := aM hI
 have GEg_ := aM (IsS123.ge hI)
 have HK := aM (KeepBut.refl w g none)
 have HL := aM hB.size
 clear hI
 have HW0 := aM hB.size
 have HB := aM hB
 clear hB
 unfold spec_l3Draw.f at h
 have H := h
 clear h
 replace H := Option.bind_eq_some_iff.mp H
 obtain ⟨⟨t297, t300, t303, t304⟩, A20, H⟩ := H
 try dsimp only at H
 have A2 := aM A20
 clear A20
 obtain ⟨y306, hy306⟩ : ∃ y_ : List Int, y_ = (([90, 91] : List Int)) := ⟨_, rfl⟩
 replace H : ((spec_l1PickInt.f s0_0 t303 t304 y306).bind fun bt309 => (if 0 ≤ bt309.1 then (if (bt309.1 : Int).toNat ≤ 281474976710656 then ((some (List.replicate (bt309.1 : Int).toNat 0 : List Int)).bind fun y312 => ((spec_l1Below.f s0_0 bt309.2.1 bt309.2.2 12).bind fun bt315 => (if bt315.1 = 0 then (if 0 < (t297.length : Int) then (spec_l3Draw.j0 k s0_0 bt315.2.1 bt315.2.2 (t297.set (0 : Int).toNat (strOfNums y312)) t300) else (none)) else (if bt315.1 = 1 then ((spec_l1PickInt.f s0_0 bt315.2.1 bt315.2.2 (([(-1), (t297.length : Int), 9223372036854775807] : List Int))).bind fun bt322 => (if t300.length < 5864062014805 then (spec_l3Draw.j0 k s0_0 bt322.2.1 bt322.2.2 t297 (t300 ++ [(⟨bt322.1, (⟨#[]⟩ : ByteArray)⟩ : S65)])) else (none))) else (if bt315.1 = 2 then (if t300.length < 5864062014805 then (spec_l3Draw.j0 k s0_0 bt315.2.1 bt315.2.2 t297 (t300 ++ [(⟨0, strOfNums y312⟩ : S65)])) else (none)) else (if bt315.1 = 3 then ((spec_l1PickInt.f s0_0 bt315.2.1 bt315.2.2 (([120, 121] : List Int))).bind fun bt334 => (if 0 ≤ bt334.1 then (if (bt334.1 : Int).toNat ≤ 17592186044416 then (spec_l3Draw.j0 k s0_0 bt334.2.1 bt334.2.2 (List.replicate (bt334.1 : Int).toNat (⟨#[]⟩ : ByteArray)) t300) else (none)) else (none))) else (if bt315.1 = 4 then ((spec_l1PickInt.f s0_0 bt315.2.1 bt315.2.2 (([399, 400, 401] : List Int))).bind fun bt343 => (if 0 ≤ bt343.1 then (if (bt343.1 : Int).toNat ≤ 11728124029610 then (spec_l3Draw.j0 k s0_0 bt343.2.1 bt343.2.2 t297 (List.replicate (bt343.1 : Int).toNat z65)) else (none)) else (none))) else (spec_l3Draw.j0 k s0_0 bt315.2.1 bt315.2.2 t297 t300)))))))) else (none)) else (none))) = some (r1, r2, r3, r4) := by first | (rw [hy306]; with_reducible exact H) | (have H2_ := (Option.bind_some _ _).symm.trans H; rw [hy306]; with_reducible exact H2_) | (have H2_ := (Option.bind_some _ _).symm.trans H; with_reducible exact H2_) | with_reducible exact H | (rw [hy306]; exact H) | exact H
 have Ny306 := aM hy306
 clear hy306
 replace H := Option.bind_eq_some_iff.mp H
 obtain ⟨⟨t309, t310, t311⟩, A30, H⟩ := H
 try dsimp only at H
 have A3 := aM A30
 clear A30
 by_cases c4 : 0 ≤ t309
 ·rw [if_pos c4] at H
  have c4b0 := eq_true c4
  have c4b1 : decide (0 ≤ t309) = true := decide_eq_true c4
  clear c4
  by_cases c5 : (t309 : Int).toNat ≤ 281474976710656
  ·rw [if_pos c5] at H
   have c5b0 := eq_true c5
   have c5b1 : decide ((t309 : Int).toNat ≤ 281474976710656) = true := decide_eq_true c5
   clear c5
   obtain ⟨y312, hy312⟩ : ∃ y_ : List Int, y_ = (List.replicate (t309 : Int).toNat 0) := ⟨_, rfl⟩
   replace H : ((spec_l1Below.f s0_0 t310 t311 12).bind fun bt315 => (if bt315.1 = 0 then (if 0 < (t297.length : Int) then (spec_l3Draw.j0 k s0_0 bt315.2.1 bt315.2.2 (t297.set (0 : Int).toNat (strOfNums y312)) t300) else (none)) else (if bt315.1 = 1 then ((spec_l1PickInt.f s0_0 bt315.2.1 bt315.2.2 (([(-1), (t297.length : Int), 9223372036854775807] : List Int))).bind fun bt322 => (if t300.length < 5864062014805 then (spec_l3Draw.j0 k s0_0 bt322.2.1 bt322.2.2 t297 (t300 ++ [(⟨bt322.1, (⟨#[]⟩ : ByteArray)⟩ : S65)])) else (none))) else (if bt315.1 = 2 then (if t300.length < 5864062014805 then (spec_l3Draw.j0 k s0_0 bt315.2.1 bt315.2.2 t297 (t300 ++ [(⟨0, strOfNums y312⟩ : S65)])) else (none)) else (if bt315.1 = 3 then ((spec_l1PickInt.f s0_0 bt315.2.1 bt315.2.2 (([120, 121] : List Int))).bind fun bt334 => (if 0 ≤ bt334.1 then (if (bt334.1 : Int).toNat ≤ 17592186044416 then (spec_l3Draw.j0 k s0_0 bt334.2.1 bt334.2.2 (List.replicate (bt334.1 : Int).toNat (⟨#[]⟩ : ByteArray)) t300) else (none)) else (none))) else (if bt315.1 = 4 then ((spec_l1PickInt.f s0_0 bt315.2.1 bt315.2.2 (([399, 400, 401] : List Int))).bind fun bt343 => (if 0 ≤ bt343.1 then (if (bt343.1 : Int).toNat ≤ 11728124029610 then (spec_l3Draw.j0 k s0_0 bt343.2.1 bt343.2.2 t297 (List.replicate (bt343.1 : Int).toNat z65)) else (none)) else (none))) else (spec_l3Draw.j0 k s0_0 bt315.2.1 bt315.2.2 t297 t300))))))) = some (r1, r2, r3, r4) := by first | (rw [hy312]; with_reducible exact H) | (have H2_ := (Option.bind_some _ _).symm.trans H; rw [hy312]; with_reducible exact H2_) | (have H2_ := (Option.bind_some _ _).symm.trans H; with_reducible exact H2_) | with_reducible exact H | (rw [hy312]; exact H) | exact H
   have Ny312 := aM hy312
   clear hy312
   replace H := Option.bind_eq_some_iff.mp H
   obtain ⟨⟨t315, t316, t317⟩, A60, H⟩ := H
   try dsimp only at H
   have A6 := aM A60
   clear A60
   have HC7 := aM H
   clear H
   go_enter Try.func89, Try.ntmps89
   go_upto_block 0 with (first | ((with_reducible refine gate_dst (N := 2) rfl ?_); refine bE 2 #[.slice none 0 0, .slice none 0 0] 30 ?_; intro gb296 hg w8 hbox hb; have n_ := aI (aM (IsS123.below (IsS123.iI HI0) hb)) (aI (aM (KeepBut.trans (bK HK) (KeepBut.of_below hb g none) (.inl rfl))) (aI (sB HB hb) (aI (aM hbox) (aI (aM ((by rw [hg]; exact (keep_size (w := w) (g := g) (row := none) (bK HK)) : w.heap.size ≤ gb296))) (aI (aM ((Nat.le_trans HW0.out (by rw [hg]; exact (keep_size (w := w) (g := g) (row := none) (bK HK)) : w.heap.size ≤ gb296) : w0.heap.size ≤ gb296))) (aI (aM ((by rw [hg]; exact Nat.ne_of_lt (IsS123.lt (show IsS123 w0 _ g s0_0 s0_1 s0_2 from IsS123.iI HI0)) : g ≠ gb296))) (aM ((by rw [hg]; exact Nat.ne_of_gt (IsS123.lt (show IsS123 w0 _ g s0_0 s0_1 s0_2 from IsS123.iI HI0)) : gb296 ≠ g))))))))); clear HI0 HK HB; obtain ⟨HI0, HK, HB, BK296, GW296, GE296, NB0_296, NB296_0⟩ := n_; (try clear hb hbox hg)) | ((with_reducible refine gate_callee (f := 119) rfl ?_); refine gL (some 6) Try.func119 #[.pointer (some ⟨g, 0, none⟩)] ?_; (with_reducible refine (spec_l3Right.calls k g s0_0 s0_1 s0_2 t297 t300 t303 t304 w0 _ ?side1 ?side2 A2.out).mono ?_); (case side1 => repeat (first | (with_reducible first | exact HI0.out | apply IsS123.alloc | apply IsS123.drewN | apply IsS123.drew | apply IsS123.set_1 | apply IsS123.set_2 | refine IsS123.far ?_ NB0_296.out _) | exact HI0.out)); (case side2 => repeat (first | (with_reducible first | exact HB.out | apply below_alloc | apply pw_below_drewN | apply below_drew1 | refine below_set ?_ (IsS123.ge HI0.out) | refine below_set ?_ GE296.out) | exact HB.out)); rintro e w9 ⟨v298, v301, rfl, ho0, ho1, hi, hb, hk⟩; refine ⟨_, rfl, ?_⟩; have n_ := aI (aM (KeepBut.blk hk (g' := gb296) (o := .cells #[.slice none 0 0, .slice none 0 0] 30 (0, 0)) (kP BK296) NB296_0.out (by simp))) (aI (aM (Kd.R_lower ho0 (keep_size (w := w) (g := g) (row := none) (bK HK)))) (aI (aM (Kd.R_lower ho1 (keep_size (w := w) (g := g) (row := none) (bK HK)))) (aI (aM (KeepBut.trans (bK HK) hk (.inl rfl))) (aI (aM (hb)) (aM (hi)))))); clear BK296 HK HB HI0; obtain ⟨BK296, HO299, HO302, HK, HB, HI0⟩ := n_; (try clear hb hk hi ho0 ho1)) | ((with_reducible refine gate_dst (N := 3) rfl ?_); refine bE 3 #[.slice none 0 0, .slice none 0 0] 30 ?_; intro gb305 hg w10 hbox hb; have n_ := aI (rB HO299 hb) (aI (rB HO302 hb) (aI (aM (IsS123.below (IsS123.iI HI0) hb)) (aI (kB BK296 hb) (aI (aM (KeepBut.trans (bK HK) (KeepBut.of_below hb g none) (.inl rfl))) (aI (sB HB hb) (aI (aM hbox) (aI (aM ((by rw [hg]; exact (keep_size (w := w) (g := g) (row := none) (bK HK)) : w.heap.size ≤ gb305))) (aI (aM ((Nat.le_trans HW0.out (by rw [hg]; exact (keep_size (w := w) (g := g) (row := none) (bK HK)) : w.heap.size ≤ gb305) : w0.heap.size ≤ gb305))) (aI (nL BK296 hg) (aI (nG BK296 hg) (aI (aM ((by rw [hg]; exact Nat.ne_of_lt (IsS123.lt (show IsS123 w0 _ g s0_0 t303 t304 from IsS123.iI HI0)) : g ≠ gb305))) (aM ((by rw [hg]; exact Nat.ne_of_gt (IsS123.lt (show IsS123 w0 _ g s0_0 t303 t304 from IsS123.iI HI0)) : gb305 ≠ g)))))))))))))); clear HO299 HO302 HI0 BK296 HK HB; obtain ⟨HO299, HO302, HI0, BK296, HK, HB, BK305, GW305, GE305, NB296_305, NB305_296, NB0_305, NB305_0⟩ := n_; (try clear hb hbox hg); obtain ⟨Ao11, co11, eo11⟩ := Kd.R_slice HO299.out; subst eo11; have hnb12 := NB305_296.out; have hnc12 := NB296_305.out; have hnb13 := NB305_0.out; have hnc13 := NB0_305.out; have hcz14_0 := cZ0 BK305; have hcz14_1 := cZ1 BK305; have hfz14_0 := blk_frozen BK305.out 0; have hfz14_1 := blk_frozen BK305.out 1; obtain ⟨Ao15, co15, eo15⟩ := Kd.R_slice HO302.out; subst eo15) | ((with_reducible refine gate_dst (N := 8) rfl ?_); refine Kd.R_lit (Kd.int .i64) _ 3 ?hg (N := 8) ?hd (xs := ([90, 91] : List Int)) (inner := [.int .i64 90, .int .i64 91]) (ok := fun _ => True) (okp := fun _ => True) ?hr ?hp (fun _ hk => hk) trivial (Below.refl _ _) (Nat.le_refl _) (by simp) ?_; (case hd => rfl); (case hg => rfl); (case hr => first | (go_simp; done) | (go_simp; rfl)); (case hp => exact (Reps.one (show Kd.M (Kd.int .i64) _ _ _ 90 [.int .i64 90] from rfl) (Reps.one (show Kd.M (Kd.int .i64) _ _ _ 91 [.int .i64 91] from rfl) (Reps.none _ _)))); intro v307 w16 ho17 hb hg_ hnew_; clear hg_ hnew_; (first | rw [← Ny306.out] at ho17 | (simp only [Int.reduceToNat] at ho17; rw [← Ny306.out] at ho17)); have n_ := aI (aM (Kd.R_below (rP (Kd.R_mono (Kd.R_far (p := ⟨gb305, 1, none⟩) (Kd.R_far (p := ⟨gb305, 0, none⟩) (Kd.R_types HO299.out BK305.out (by decide)) (fun _ hk => hk.2) (.slice Ao11 t297.length co11)) (fun _ hk => hk.2) (.slice Ao15 t300.length co15)) (fun _ h_ => h_.1))) hb)) (aI (aM (Kd.R_below (rP (Kd.R_mono (Kd.R_far (p := ⟨gb305, 1, none⟩) (Kd.R_far (p := ⟨gb305, 0, none⟩) (Kd.R_types HO302.out BK305.out (by decide)) (fun _ hk => hk.2) (.slice Ao11 t297.length co11)) (fun _ hk => hk.2) (.slice Ao15 t300.length co15)) (fun _ h_ => h_.1))) hb)) (aI (aM (Kd.R_lower ho17 (keep_size (w := w) (g := g) (row := none) (bK HK)))) (aI (aM (IsS123.below (show IsS123 w0 ((w10.setCell ⟨gb305, 0, none⟩ (.slice Ao11 t297.length co11)).setCell ⟨gb305, 1, none⟩ (.slice Ao15 t300.length co15)) g s0_0 t303 t304 from IsS123.iI HI0) hb)) (aI (kB BK296 hb) (aI (aM (blk_below (g := gb305) (o := .cells #[.slice Ao11 t297.length co11, .slice Ao15 t300.length co15] 30 (0, 0)) (by (with_reducible repeat (first | refine blk_drewN ?_ _ | refine blk_drew ?_ | refine blk_alloc ?_ _)); refine blk_put (cs := #[.slice Ao11 t297.length co11, .slice none 0 0]) ?_ 1 _ rfl; (with_reducible repeat (first | refine blk_drewN ?_ _ | refine blk_drew ?_ | refine blk_alloc ?_ _)); refine blk_put (cs := #[.slice none 0 0, .slice none 0 0]) ?_ 0 _ rfl; (with_reducible repeat (first | refine blk_drewN ?_ _ | refine blk_drew ?_ | refine blk_alloc ?_ _)); exact BK305.out) hb)) (aI (aM (KeepBut.trans (bK HK) (KeepBut.of_below hb g none) (.inl rfl))) (sB HB hb))))))); clear HO299 HO302 HI0 BK296 BK305 HK HB; obtain ⟨HO299, HO302, HO308, HI0, BK296, BK305, HK, HB⟩ := n_; (try clear hb ho17); obtain ⟨Ao18, co18, eo18⟩ := Kd.R_slice HO308.out; subst eo18) | ((with_reducible refine gate_callee (f := 98) rfl ?_); refine gL (some 9) Try.func98 #[.pointer (some ⟨g, 0, none⟩), .slice Ao18 y306.length co18] ?_; (with_reducible refine (spec_l1PickInt.calls g s0_0 t303 t304 _ _ y306 t309 t310 t311 w0 _ ?side1 ?side2 ?side3 ?side4 ?side5 A3.out).mono ?_); (case side1 => repeat (first | (with_reducible first | exact HI0.out | apply IsS123.alloc | apply IsS123.drewN | apply IsS123.drew | apply IsS123.set_1 | apply IsS123.set_2 | refine IsS123.far ?_ NB0_296.out _ | refine IsS123.far ?_ NB0_305.out _) | exact HI0.out)); (case side2 => repeat (first | (with_reducible first | exact HB.out | apply below_alloc | apply pw_below_drewN | apply below_drew1 | refine below_set ?_ (IsS123.ge HI0.out) | refine below_set ?_ GE296.out | refine below_set ?_ GE305.out) | exact HB.out)); (case side3 => exact cR HO308); (case side4 => exact (Kd.R_reads' HO308.out).2.1); (case side5 => exact far_slice (IsS123.own_ne HI0.out HO308.out (by decide))); rintro e w19 ⟨rfl, hi, hb, hk⟩; refine ⟨_, rfl, ?_⟩; have n_ := aI (aM (KeepBut.blk hk (g' := gb296) (o := .cells #[.slice none 0 0, .slice none 0 0] 30 (0, 0)) (kP BK296) NB296_0.out (by simp))) (aI (aM (Kd.R_mono (Kd.R_keep (IsS123.apart (show IsS123 w0 _ g s0_0 t303 t304 from IsS123.iI HI0) (rP HO299.out) (by decide)) hk (fun _ h => h.2)) (fun _ h => h.1))) (aI (aM (Kd.R_mono (Kd.R_keep (IsS123.apart (show IsS123 w0 _ g s0_0 t303 t304 from IsS123.iI HI0) (rP HO302.out) (by decide)) hk (fun _ h => h.2)) (fun _ h => h.1))) (aI (aM (KeepBut.blk hk (g' := gb305) (o := .cells #[.slice Ao11 t297.length co11, .slice Ao15 t300.length co15] 30 (0, 0)) (kP BK305) NB305_0.out (by simp))) (aI (aM (Kd.R_mono (Kd.R_keep (IsS123.apart (show IsS123 w0 _ g s0_0 t303 t304 from IsS123.iI HI0) (rP HO308.out) (by decide)) hk (fun _ h => h.2)) (fun _ h => h.1))) (aI (aM (KeepBut.trans (bK HK) hk (.inl rfl))) (aI (aM (hb)) (aM (hi)))))))); clear BK296 HO299 HO302 BK305 HO308 HK HB HI0; obtain ⟨BK296, HO299, HO302, BK305, HO308, HK, HB, HI0⟩ := n_; (try clear hb hk hi)) | ((with_reducible refine gate_dst (N := 10) rfl ?_); refine Kd.R_make (Kd.int .u8) _ 5 rfl (N := 10) rfl 60 _ _ rfl t309 rfl rfl Try.underlying60 (.int .u8 0) 1 info5 rfl (by decide) (by omega) 0 (ok := fun _ => True) (okp := fun _ => True) rfl (fun _ hk => hk) trivial (dT) (Nat.le_trans (Nat.mul_le_mul_right _ (dT : t309.toNat ≤ 281474976710656)) (by omega)) (Below.refl _ _) (Nat.le_refl _) ?_; intro v313 w20 ho21 hb hg_ hnew_; clear hg_ hnew_; (first | rw [← Ny312.out] at ho21 | (simp only [Int.reduceToNat] at ho21; rw [← Ny312.out] at ho21)); have n_ := aI (rB HO299 hb) (aI (rB HO302 hb) (aI (rB HO308 hb) (aI (aM (Kd.R_lower ho21 (keep_size (w := w) (g := g) (row := none) (bK HK)))) (aI (aM (IsS123.below (IsS123.iI HI0) hb)) (aI (kB BK296 hb) (aI (kB BK305 hb) (aI (aM (KeepBut.trans (bK HK) (KeepBut.of_below hb g none) (.inl rfl))) (sB HB hb)))))))); clear HO299 HO302 HO308 HI0 BK296 BK305 HK HB; obtain ⟨HO299, HO302, HO308, HO314, HI0, BK296, BK305, HK, HB⟩ := n_; (try clear hb ho21); have hcv22 := own_string (P := Try.prog) Try.underlying60 Try.underlying5 Try.underlying9 (Kd.own_of_R HO314.out)) | ((with_reducible refine gate_callee (f := 95) rfl ?_); refine gL (some 13) Try.func95 #[.pointer (some ⟨g, 0, none⟩), .int .i64 12] ?_; (with_reducible refine (spec_l1Below.calls g s0_0 t310 t311 12 t315 t316 t317 w0 _ ?side1 ?side2 A6.out).mono ?_); (case side1 => repeat (first | (with_reducible first | exact HI0.out | apply IsS123.alloc | apply IsS123.drewN | apply IsS123.drew | apply IsS123.set_1 | apply IsS123.set_2 | refine IsS123.far ?_ NB0_296.out _ | refine IsS123.far ?_ NB0_305.out _) | exact HI0.out)); (case side2 => repeat (first | (with_reducible first | exact HB.out | apply below_alloc | apply pw_below_drewN | apply below_drew1 | refine below_set ?_ (IsS123.ge HI0.out) | refine below_set ?_ GE296.out | refine below_set ?_ GE305.out) | exact HB.out)); rintro e w23 ⟨rfl, hi, hb, hk⟩; refine ⟨_, rfl, ?_⟩; have n_ := aI (aM (KeepBut.blk hk (g' := gb296) (o := .cells #[.slice none 0 0, .slice none 0 0] 30 (0, 0)) (kP BK296) NB296_0.out (by simp))) (aI (aM (Kd.R_mono (Kd.R_keep (IsS123.apart (show IsS123 w0 _ g s0_0 t310 t311 from IsS123.iI HI0) (rP HO299.out) (by decide)) hk (fun _ h => h.2)) (fun _ h => h.1))) (aI (aM (Kd.R_mono (Kd.R_keep (IsS123.apart (show IsS123 w0 _ g s0_0 t310 t311 from IsS123.iI HI0) (rP HO302.out) (by decide)) hk (fun _ h => h.2)) (fun _ h => h.1))) (aI (aM (KeepBut.blk hk (g' := gb305) (o := .cells #[.slice Ao11 t297.length co11, .slice Ao15 t300.length co15] 30 (0, 0)) (kP BK305) NB305_0.out (by simp))) (aI (aM (Kd.R_mono (Kd.R_keep (IsS123.apart (show IsS123 w0 _ g s0_0 t310 t311 from IsS123.iI HI0) (rP HO308.out) (by decide)) hk (fun _ h => h.2)) (fun _ h => h.1))) (aI (aM (Kd.R_mono (Kd.R_keep (IsS123.apart (show IsS123 w0 _ g s0_0 t310 t311 from IsS123.iI HI0) (rP HO314.out) (by decide)) hk (fun _ h => h.2)) (fun _ h => h.1))) (aI (aM (KeepBut.trans (bK HK) hk (.inl rfl))) (aI (aM (hb)) (aM (hi))))))))); clear BK296 HO299 HO302 BK305 HO308 HO314 HK HB HI0; obtain ⟨BK296, HO299, HO302, BK305, HO308, HO314, HK, HB, HI0⟩ := n_; (try clear hb hk hi)))
   (try simp only [Act.put, List.setIfInBounds_toArray, List.set_cons_zero, List.set_cons_succ])
   go_cut [] (fun wc => ∃ (kq : Nat) (x1001_6 : Int) (x1002_6 : Int) (x306000_6 : List ByteArray) (x306001_6 : List (S65)) (u306000 : Value) (u306001 : Value), Aside0 (spec_l3Draw.j0 kq s0_0 x1001_6 x1002_6 x306000_6 x306001_6 = some (r1, r2, r3, r4)) ∧ Aside0 (kq ≤ k) ∧ Aside0 (Kd.R Kd.string 9 wc w.heap.size (fun _ => True) u306000 x306000_6) ∧ Aside0 (Kd.R k65 65 wc w.heap.size (fun _ => True) u306001 x306001_6) ∧ Aside0 (wc.heap[gb296]? = some (.cells #[(.slice none 0 0), (.slice none 0 0)] 30 (0, 0))) ∧ Aside0 (wc.heap[gb305]? = some (.cells #[u306000, u306001] 30 (0, 0))) ∧ Aside0 (IsS123 w0 wc g s0_0 x1001_6 x1002_6) ∧ Aside0 (KeepBut w wc g none) ∧ Aside0 (Below w0.heap.size w0 wc))
   case first =>
    have H := HC7.out
    clear HC7
    by_cases c24 : t315 = 0
    ·rw [if_pos c24] at H
     have c24b0 : (t315 == 0) = true := beq_iff_eq.mpr c24
     have c24b1 : (t315 != 0) = false := bne_eq_false_iff_eq.mpr c24
     clear c24
     (first | rw [c24b0] | (simp only [i64_w, i32_w]; rw [c24b0]) | rw [c24b1] | rw [c24b2] | skip)
     by_cases c25 : 0 < (t297.length : Int)
     ·rw [if_pos c25] at H
      have c25b0 : decide (0 < (t297.length : Int)) = true := decide_eq_true c25
      have c25b1 : decide (0 < t297.length) = true := decide_eq_true (by omega)
      clear c25
      obtain ⟨y318, hy318⟩ : ∃ y_ : List ByteArray, y_ = (t297.set (0 : Int).toNat (strOfNums y312)) := ⟨_, rfl⟩
      replace H : (spec_l3Draw.j0 k s0_0 t316 t317 y318 t300) = some (r1, r2, r3, r4) := by first | (rw [hy318]; with_reducible exact H) | (have H2_ := (Option.bind_some _ _).symm.trans H; rw [hy318]; with_reducible exact H2_) | (have H2_ := (Option.bind_some _ _).symm.trans H; with_reducible exact H2_) | with_reducible exact H | (rw [hy318]; exact H) | exact H
      have Ny318 := aM hy318
      clear hy318
      have H' := aM H
      clear H
      have hnb27 := NB305_296.out
      have hnc27 := NB296_305.out
      have hnb28 := NB305_0.out
      have hnc28 := NB0_305.out
      have hcz29_0 := cZ0 BK305
      have hcz29_1 := cZ1 BK305
      have hfz29_0 := blk_frozen BK305.out 0
      have hfz29_1 := blk_frozen BK305.out 1
      have p26 : 0 ≤ (0 : Int) := (by omega)
      have q26 : (0 : Int) < ((t297.length : Int) : Int) := dT
      have qi26 : (0 < t297.length) = True := eq_true (by omega)
      obtain ⟨go26, co26, eo26, gb26, gl26, cl26, HG26⟩ := Kd.R_form HO299.out (by omega)
      (first | cases eo26 | (injection eo26 with ea_ en_ ec_; (first | subst ea_ | (injection ea_ with ea_; subst ea_)); subst ec_; clear en_))
      have GB26 := aM gb26
      have GG26 := aM HG26
      clear gb26 gl26 HG26
      obtain ⟨hx26_0, hf26_0⟩ := Kd.R_celln (⟨#[]⟩ : ByteArray) HO299.out (0 : Int) p26 q26
      (try rw [show ((0 : Int)).toNat = 0 from rfl] at hx26_0)
      (try simp only [Nat.reduceMul, Nat.zero_mul, Nat.zero_add, Nat.reduceAdd] at hx26_0)
      (try rw [show ((0 : Int)).toNat = 0 from rfl] at hf26_0)
      (try simp only [Nat.reduceMul, Nat.zero_mul, Nat.zero_add, Nat.reduceAdd] at hf26_0)
      replace p26 := eq_true p26
      replace q26 := eq_true q26
      have HP30 := Kd.R_putg HO299.out (0 : Int) (strOfNums y312)
      go_wp2_with (first | ((with_reducible refine gate_store (t := 9) (p := 19) rfl ?_); refine store_event (t := 9) (p := 19) (v := ?vo_w31) (w1 := (w23.setCell ⟨go26, (0 : Int).toNat, none⟩ (.string (strOfNums y312)))) ?hg ?ho ?hn ?hr ?_; (case ho => rfl); (case hg => rfl); (case hn => rfl); (case hr => first | (go_simp; done) | (go_simp; rfl)); intro w31 hw; have hg : w23.grownBy w31 (some go26) := (by rw [hw]; exact HP30.2); have hp_ : Kd.R Kd.string 9 w31 w.heap.size (fun _ => True) (.slice (some ⟨go26, 0, none⟩) t297.length co11) y318 := (by rw [hw, Ny318.out]; exact HP30.1); clear HP30; have n_ := aI (aM (IsS123.grown (IsS123.iI HI0) hg (IsS123.own_ne HI0.out HO299.out (by decide)))) (aI (aM (blk_grown (g := gb296) (o := .cells #[.slice none 0 0, .slice none 0 0] 30 (0, 0)) (kP BK296) hg (Kd.R_ne HO299.out BK296.out (by decide)))) (aI (aM (hp_)) (aI (aM (Kd.R_over' (v := (.slice (some ⟨go26, 0, none⟩) t297.length co11)) (rP HO302.out) (Kd.R_typed HO299.out) (by decide) hg)) (aI (aM (blk_grown (g := gb305) (o := .cells #[.slice (some ⟨go26, 0, none⟩) t297.length co11, .slice Ao15 t300.length co15] 30 (0, 0)) (kP BK305) hg (Kd.R_ne HO299.out BK305.out (by decide)))) (aI (aM (Kd.R_over' (v := (.slice (some ⟨go26, 0, none⟩) t297.length co11)) (rP HO308.out) (Kd.R_typed HO299.out) (by decide) hg)) (aI (aM (Kd.R_over' (v := (.slice (some ⟨go26, 0, none⟩) t297.length co11)) (rP HO314.out) (Kd.R_typed HO299.out) (by decide) hg)) (aI (aM ((by rw [hw]; exact below_set (HB.out) (Nat.le_trans HL.out GB26.out) : Below w0.heap.size w0 w31))) (aM (KeepBut.trans (bK HK) (KeepBut.of_grown hg g) (Kd.R_base2 HO299.out)))))))))); clear HI0 BK296 HO299 HO302 BK305 HO308 HO314 HB HK; obtain ⟨HI0, BK296, HO299, HO302, BK305, HO308, HO314, HB, HK⟩ := n_; (try clear hw)))
      go_meet
      case rel => exact ⟨_, (t316), (t317), (y318), (t300), (.slice (some ⟨go26, 0, none⟩) t297.length co11), (.slice Ao15 t300.length co15), H', ⟨by first | omega | exact Nat.le_refl _⟩, ⟨rP HO299.out⟩, ⟨rP HO302.out⟩, ⟨kP BK296⟩, ⟨kP BK305⟩, ⟨IsS123.iI HI0⟩, ⟨bK HK⟩, ⟨bB⟩⟩
     rw [if_neg c25] at H
     exact absurd H (by simp)
    rw [if_neg c24] at H
    have c24b0 : (t315 == 0) = false := beq_eq_false_iff_ne.mpr c24
    have c24b1 : (t315 != 0) = true := bne_iff_ne.mpr c24
    (first | rw [c24b0] | (simp only [i64_w, i32_w]; rw [c24b0]) | rw [c24b1] | rw [c24b2] | skip)
    by_cases c32 : t315 = 1
    ·rw [if_pos c32] at H
     have c32b0 : (t315 == 1) = true := beq_iff_eq.mpr c32
     have c32b1 : (t315 != 1) = false := bne_eq_false_iff_eq.mpr c32
     clear c32
     obtain ⟨y319, hy319⟩ : ∃ y_ : List Int, y_ = (([(-1), (t297.length : Int), 9223372036854775807] : List Int)) := ⟨_, rfl⟩
     replace H : ((spec_l1PickInt.f s0_0 t316 t317 y319).bind fun bt322 => (if t300.length < 5864062014805 then (spec_l3Draw.j0 k s0_0 bt322.2.1 bt322.2.2 t297 (t300 ++ [(⟨bt322.1, (⟨#[]⟩ : ByteArray)⟩ : S65)])) else (none))) = some (r1, r2, r3, r4) := by first | (rw [hy319]; with_reducible exact H) | (have H2_ := (Option.bind_some _ _).symm.trans H; rw [hy319]; with_reducible exact H2_) | (have H2_ := (Option.bind_some _ _).symm.trans H; with_reducible exact H2_) | with_reducible exact H | (rw [hy319]; exact H) | exact H
     have Ny319 := aM hy319
     clear hy319
     replace H := Option.bind_eq_some_iff.mp H
     obtain ⟨⟨t322, t323, t324⟩, A330, H⟩ := H
     try dsimp only at H
     have A33 := aM A330
     clear A330
     by_cases c34 : t300.length < 5864062014805
     ·rw [if_pos c34] at H
      have LMc34 := aM c34
      clear c34
      obtain ⟨y325, hy325⟩ : ∃ y_ : List (S65), y_ = (t300 ++ [(⟨t322, (⟨#[]⟩ : ByteArray)⟩ : S65)]) := ⟨_, rfl⟩
      replace H : (spec_l3Draw.j0 k s0_0 t323 t324 t297 y325) = some (r1, r2, r3, r4) := by first | (rw [hy325]; with_reducible exact H) | (have H2_ := (Option.bind_some _ _).symm.trans H; rw [hy325]; with_reducible exact H2_) | (have H2_ := (Option.bind_some _ _).symm.trans H; with_reducible exact H2_) | with_reducible exact H | (rw [hy325]; exact H) | exact H
      have Ny325 := aM hy325
      clear hy325
      have H' := aM H
      clear H
      try go_wp2
      have n0_ := aM (Kd.R_drew HO299.out)
      have n1_ := aM (Kd.R_drew HO302.out)
      have n2_ := aM (Kd.R_drew HO308.out)
      have n3_ := aM (Kd.R_drew HO314.out)
      have n4_ := aM (blk_drew BK296.out)
      have n5_ := aM (blk_drew BK305.out)
      have n6_ := aM (IsS123.drew HI0.out)
      have n7_ := aM (keep_drew HK.out)
      have n8_ := aM (below_drew1 HB.out)
      clear HO299
      clear HO302
      clear HO308
      clear HO314
      clear BK296
      clear BK305
      clear HI0
      clear HK
      clear HB
      have HO299 := n0_
      have HO302 := n1_
      have HO308 := n2_
      have HO314 := n3_
      have BK296 := n4_
      have BK305 := n5_
      have HI0 := n6_
      have HK := n7_
      have HB := n8_
      clear n0_ n1_ n2_ n3_ n4_ n5_ n6_ n7_ n8_
      refine start_ (n := 13) (S := fun w' => w'.cell? ⟨gb305, 0, none⟩ = some (.slice Ao11 t297.length co11) ∧ w'.cell? ⟨gb305, 1, none⟩ = some (.slice Ao15 t300.length co15)) (ds := [12]) #[tF, tF, tF, tF, tF, tF, tF, tF, tF, tF, tF, tF, tF] (by kernel_rfl) rfl rfl ⟨(blk_cell BK305.out 0).trans rfl, (blk_cell BK305.out 1).trans rfl⟩ (fun hHeld => ?_); refine with_tabW spec_l3Draw.tab7 spec_l3Draw.bits7 (fun HT_ HW_ => ?_)
      generalize w23.drew = w35 at HO299 HO302 HO308 HO314 BK296 BK305 HI0 HK HB hHeld ⊢
      refine pY 0 22 #[tT, tF, tF, tF, tF, tF, tF, tF, tF, tF, tF, tF, tF] ?_
      refine pY 2 24 #[tT, tF, tT, tF, tF, tF, tF, tF, tF, tF, tF, tF, tF] ?_
      refine pY 3 25 #[tT, tF, tT, tT, tF, tF, tF, tF, tF, tF, tF, tF, tF] ?_
      refine take_ (i := 1) (N := some 23) (v := ?_) (a' := ?_) #[tT, tT, tT, tT, tF, tF, tF, tF, tF, tF, tF, tF, tF] rfl rfl (take_ofW HT_.out HW_.out (by kernel_rfl)) (fun _ _ _ h => h) (Or.inl ⟨by rfl, ?_⟩) hHeld ?_ ?_
      rotate_left
      ·rintro w' ⟨s0, s1⟩
       go_simp
       with_reducible rfl
      rotate_left
      ·simp only [Act.put, List.setIfInBounds_toArray, List.set_cons_zero, List.set_cons_succ, i64_w, i32_w]
       rfl
      refine take_ (i := 4) (N := some 26) (v := ?_) (a' := ?_) #[tT, tT, tT, tT, tT, tF, tF, tF, tF, tF, tF, tF, tF] rfl rfl (take_ofW HT_.out HW_.out (by kernel_rfl)) (fun _ _ _ h => h) (Or.inl ⟨by rfl, ?_⟩) hHeld ?_ ?_
      rotate_left
      ·rintro w' ⟨s0, s1⟩
       go_simp
       with_reducible rfl
      rotate_left
      ·simp only [Act.put, List.setIfInBounds_toArray, List.set_cons_zero, List.set_cons_succ, i64_w, i32_w]
       rfl
      refine pY 5 27 #[tT, tT, tT, tT, tT, tT, tF, tF, tF, tF, tF, tF, tF] ?_
      refine one_ (i := 6) (N := some 28) #[tT, tT, tT, tT, tT, tT, tT, tF, tF, tF, tF, tF, tF] rfl rfl (one_of HT_.out (by kernel_rfl)) (by decide) (fun K hK => ?_)
      refine Kd.R_lit_step (Kd.int .i64) _ 3 ?hg (N := 28) ?hd (xs := ([(-1), (t297.length : Int), 9223372036854775807] : List Int)) (inner := [.int .i64 (-1), .int .i64 (t297.length : Int), .int .i64 9223372036854775807]) (ok := fun _ => True) (okp := fun _ => True) ?hr ?hp (fun _ hk => hk) trivial (Below.refl _ _) (Nat.le_refl _) (by simp) ?_; (case hd => rfl); (case hg => rfl); (case hr => first | (go_simp; done) | (go_simp; rfl)); (case hp => exact (Reps.one (show Kd.M (Kd.int .i64) _ _ _ (-1) [.int .i64 (-1)] from rfl) (Reps.one (show Kd.M (Kd.int .i64) _ _ _ (t297.length : Int) [.int .i64 (t297.length : Int)] from rfl) (Reps.one (show Kd.M (Kd.int .i64) _ _ _ 9223372036854775807 [.int .i64 9223372036854775807] from rfl) (Reps.none _ _)))))
      intro v320 w36 ho37 hb hg_ hnew_
      clear hg_ hnew_
      (first | rw [← Ny319.out] at ho37 | (simp only [Int.reduceToNat] at ho37; rw [← Ny319.out] at ho37))
      have n0_ := rB HO299 hb
      have n1_ := rB HO302 hb
      have n2_ := eR HO308 ho37 hb
      have n3_ := rB HO314 hb
      have n4_ := aM (Kd.R_lower (Kd.R_new' ho37 (rL HO308)) (keep_size (w := w) (g := g) (row := none) (bK HK)))
      have n5_ := aM (IsS123.below (IsS123.iI HI0) hb)
      have n6_ := kB BK296 hb
      have n7_ := kB BK305 hb
      have n8_ := aM (KeepBut.trans (bK HK) (KeepBut.of_below hb g none) (.inl rfl))
      have n9_ := sB HB hb
      clear HO299
      clear HO302
      clear HO308
      clear HO314
      clear HI0
      clear BK296
      clear BK305
      clear HK
      clear HB
      have HO299 := n0_
      have HO302 := n1_
      have HO308 := n2_
      have HO314 := n3_
      have HO321 := n4_
      have HI0 := n5_
      have BK296 := n6_
      have BK305 := n7_
      have HK := n8_
      have HB := n9_
      clear n0_ n1_ n2_ n3_ n4_ n5_ n6_ n7_ n8_ n9_
      clear hb ho37
      obtain ⟨Ao38, co38, eo38⟩ := Kd.R_slice HO321.out
      (first | subst eo38 | (injection eo38 with f1_ f2_ f3_; have f4_ := f1_.symm; have f5_ := f3_.symm; clear f1_ f2_ f3_; subst f4_; subst f5_))
      refine hK.out _ _ ⟨(blk_cell BK305.out 0).trans rfl, (blk_cell BK305.out 1).trans rfl⟩ (fun hHeld => ?_)
      clear hK K
      refine norm_ (a' := ?_) ?_ ?_
      rotate_left
      ·show Act.put _ (some 28) _ = _
       simp only [Act.put, List.setIfInBounds_toArray, List.set_cons_zero, List.set_cons_succ, i64_w, i32_w]
       rfl
      refine one_ (i := 7) (N := some 29) #[tT, tT, tT, tT, tT, tT, tT, tT, tF, tF, tF, tF, tF] rfl rfl (one_of HT_.out (by kernel_rfl)) (by decide) (fun K hK => ?_)
      refine goes_ Try.func98 (by kernel_rfl) rfl #[.pointer (some ⟨g, 0, none⟩), .slice Ao38 y319.length co38] (by rfl) rfl rfl (by (try simp only [List.map_toArray, List.map_cons, List.map_nil]); first | done | rfl | (simp only [List.length_drop, List.length_take]; rfl)) ?_
      with_reducible refine (spec_l1PickInt.calls g s0_0 t316 t317 _ _ y319 t322 t323 t324 w0 _ ?side1 ?side2 ?side3 ?side4 ?side5 A33.out).mono ?_
      (case side1 => repeat (first | (with_reducible first | exact HI0.out | apply IsS123.alloc | apply IsS123.drewN | apply IsS123.drew | apply IsS123.set_1 | apply IsS123.set_2 | refine IsS123.far ?_ NB0_296.out _ | refine IsS123.far ?_ NB0_305.out _) | exact HI0.out))
      (case side2 => repeat (first | (with_reducible first | exact HB.out | apply below_alloc | apply pw_below_drewN | apply below_drew1 | refine below_set ?_ (IsS123.ge HI0.out) | refine below_set ?_ GE296.out | refine below_set ?_ GE305.out) | exact HB.out))
      (case side3 => exact cR HO321)
      (case side4 => exact (Kd.R_reads' HO321.out).2.1)
      (case side5 => exact far_slice (IsS123.own_ne HI0.out HO321.out (by decide)))
      rintro e w39 ⟨rfl, hi, hb, hk⟩
      refine ⟨_, rfl, ?_⟩
      have n0_ := aM (KeepBut.blk hk (g' := gb296) (o := .cells #[.slice none 0 0, .slice none 0 0] 30 (0, 0)) (kP BK296) NB296_0.out (by simp))
      have n1_ := aM (Kd.R_mono (Kd.R_keep (IsS123.apart (show IsS123 w0 _ g s0_0 t316 t317 from IsS123.iI HI0) (rP HO299.out) (by decide)) hk (fun _ h => h.2)) (fun _ h => h.1))
      have n2_ := aM (Kd.R_mono (Kd.R_keep (IsS123.apart (show IsS123 w0 _ g s0_0 t316 t317 from IsS123.iI HI0) (rP HO302.out) (by decide)) hk (fun _ h => h.2)) (fun _ h => h.1))
      have n3_ := aM (KeepBut.blk hk (g' := gb305) (o := .cells #[.slice Ao11 t297.length co11, .slice Ao15 t300.length co15] 30 (0, 0)) (kP BK305) NB305_0.out (by simp))
      have n4_ := aM (Kd.R_mono (Kd.R_keep (IsS123.apart (show IsS123 w0 _ g s0_0 t316 t317 from IsS123.iI HI0) (rP HO308.out) (by decide)) hk (fun _ h => h.2)) (fun _ h => h.1))
      have n5_ := aM (Kd.R_mono (Kd.R_keep (IsS123.apart (show IsS123 w0 _ g s0_0 t316 t317 from IsS123.iI HI0) (rP HO314.out) (by decide)) hk (fun _ h => h.2)) (fun _ h => h.1))
      have n6_ := aM (Kd.R_mono (Kd.R_keep (IsS123.apart (show IsS123 w0 _ g s0_0 t316 t317 from IsS123.iI HI0) (rP HO321.out) (by decide)) hk (fun _ h => h.2)) (fun _ h => h.1))
      have n7_ := aM (KeepBut.trans (bK HK) hk (.inl rfl))
      have n8_ := aM (hb)
      have n9_ := aM (hi)
      clear BK296
      clear HO299
      clear HO302
      clear BK305
      clear HO308
      clear HO314
      clear HO321
      clear HK
      clear HB
      clear HI0
      have BK296 := n0_
      have HO299 := n1_
      have HO302 := n2_
      have BK305 := n3_
      have HO308 := n4_
      have HO314 := n5_
      have HO321 := n6_
      have HK := n7_
      have HB := n8_
      have HI0 := n9_
      clear n0_ n1_ n2_ n3_ n4_ n5_ n6_ n7_ n8_ n9_
      (try clear hb)
      (try clear hb2)
      (try clear hk)
      (try clear hi)
      refine hK.out _ _ ⟨(blk_cell BK305.out 0).trans rfl, (blk_cell BK305.out 1).trans rfl⟩ (fun hHeld => ?_)
      clear hK K
      refine norm_ (a' := ?_) ?_ ?_
      rotate_left
      ·show Act.put _ (some 29) _ = _
       simp only [Act.put, List.setIfInBounds_toArray, List.set_cons_zero, List.set_cons_succ, i64_w, i32_w]
       rfl
      refine pY 8 30 #[tT, tT, tT, tT, tT, tT, tT, tT, tT, tF, tF, tF, tF] ?_
      refine one_ (i := 9) (N := some 31) #[tT, tT, tT, tT, tT, tT, tT, tT, tT, tT, tF, tF, tF] rfl rfl (one_of HT_.out (by kernel_rfl)) (by decide) (fun K hK => ?_)
      refine value_ (w1 := ?_) (v := ?_) (by rfl) rfl ?_ ?_
      rotate_left 2
      ·go_simp
       constructor
       ·rfl
       rfl
      refine hK.out _ _ ⟨(blk_cell (blk_alloc BK305.out _) 0).trans rfl, (blk_cell (blk_alloc BK305.out _) 1).trans rfl⟩ (fun hHeld => ?_)
      clear hK K
      refine norm_ (a' := ?_) ?_ ?_
      rotate_left
      ·show Act.put _ (some 31) _ = _
       simp only [Act.put, List.setIfInBounds_toArray, List.set_cons_zero, List.set_cons_succ, i64_w, i32_w]
       rfl
      refine one_ (i := 10) (N := some 32) #[tT, tT, tT, tT, tT, tT, tT, tT, tT, tT, tT, tF, tF] rfl rfl (one_of HT_.out (by kernel_rfl)) (by decide) (fun K hK => ?_)
      refine Kd.R_append_step k65 w.heap.size (by rfl) (.tmp 23) (.tmp 31) 28 65 (.agg #[(.int .i64 0), (.string ⟨#[]⟩)]) 24 rfl Try.underlying28 info65 rfl (by decide) (by omega) (.slice Ao15 t300.length co15) t300 (⟨t322, (⟨#[]⟩ : ByteArray)⟩ : S65) [.int .i64 t322, .string (⟨#[]⟩ : ByteArray)] (fun _ => True) (fun _ => False) rfl rfl ?aP (fun _ hk => hk.elim) ?aF ?aO (Below.refl _ _) ?aS ?aL ?_
      (case aP => exact k65_mkM _ _ _ (⟨t322, (⟨#[]⟩ : ByteArray)⟩ : S65))
      (case aF => exact (fun _ _ => trivial))
      (case aO => exact (rP HO302.out))
      (case aS => exact (keep_size (w := w) (g := g) (row := none) (bK HK)))
      (case aL => have := LMc34.out; omega)
      intro v326 w40 ho hb hg hat
      rw [← Ny325.out] at ho
      have n0_ := aM (IsS123.grown (IsS123.iI HI0) hg (IsS123.own_ne HI0.out HO302.out (by decide)))
      have n1_ := aM (blk_grown (g := gb296) (o := .cells #[.slice none 0 0, .slice none 0 0] 30 (0, 0)) (kP BK296) hg (Kd.R_ne HO302.out BK296.out (by decide)))
      have n2_ := aM (Kd.R_over' (rP HO299.out) (Kd.R_typed (rP HO302.out)) (by decide) hg)
      have n3_ := aM (blk_grown (g := gb305) (o := .cells #[.slice Ao11 t297.length co11, .slice Ao15 t300.length co15] 30 (0, 0)) (kP BK305) hg (Kd.R_ne HO302.out BK305.out (by decide)))
      have n4_ := aM (Kd.R_over' (rP HO308.out) (Kd.R_typed (rP HO302.out)) (by decide) hg)
      have n5_ := aM (Kd.R_over' (rP HO314.out) (Kd.R_typed (rP HO302.out)) (by decide) hg)
      have n6_ := aM (Kd.R_over' (rP HO321.out) (Kd.R_typed (rP HO302.out)) (by decide) hg)
      have n7_ := aM (below_weaken bB HL.out hb)
      have n8_ := aM (KeepBut.trans (bK HK) (KeepBut.of_grown hg g) (Kd.R_base2 HO302.out))
      have n9_ := aM (ho)
      clear HI0
      clear BK296
      clear HO299
      clear BK305
      clear HO308
      clear HO314
      clear HO321
      clear HB
      clear HK
      clear HO302
      have HI0 := n0_
      have BK296 := n1_
      have HO299 := n2_
      have BK305 := n3_
      have HO308 := n4_
      have HO314 := n5_
      have HO321 := n6_
      have HB := n7_
      have HK := n8_
      have HO327 := n9_
      clear n0_ n1_ n2_ n3_ n4_ n5_ n6_ n7_ n8_ n9_
      clear ho hb hg hat
      obtain ⟨Ao41, co41, eo41⟩ := Kd.R_slice HO327.out
      (first | subst eo41 | (injection eo41 with f1_ f2_ f3_; have f4_ := f1_.symm; have f5_ := f3_.symm; clear f1_ f2_ f3_; subst f4_; subst f5_))
      refine hK.out _ _ ⟨(blk_cell BK305.out 0).trans rfl, (blk_cell BK305.out 1).trans rfl⟩ (fun hHeld => ?_)
      clear hK K
      refine norm_ (a' := ?_) ?_ ?_
      rotate_left
      ·show Act.put _ (some 32) _ = _
       simp only [Act.put, List.setIfInBounds_toArray, List.set_cons_zero, List.set_cons_succ, i64_w, i32_w]
       rfl
      refine pY 11 33 #[tT, tT, tT, tT, tT, tT, tT, tT, tT, tT, tT, tT, tF] ?_
      refine last_ (i := 12) (N := none) #[tT, tT, tT, tT, tT, tT, tT, tT, tT, tT, tT, tT, tT] rfl rfl (one_of HT_.out (by kernel_rfl)) (by decide) (fun K hK => ?_)
      have hs42 : w40.cell? ⟨gb305, 1, none⟩ = some (.slice Ao15 t300.length co15) := (blk_cell BK305.out 1).trans rfl
      have hfs42 := blk_frozen BK305.out 1
      have hns42_0 := NB296_305.out
      have hms42_0 := NB305_296.out
      refine skip_ (w1 := ?_) (by rfl) rfl ?_ ?_
      rotate_left
      ·go_simp
       rfl
      refine hK.out _ _ ?_
      clear hK K
      refine done_ (done_of HT_.out (by kernel_rfl)) ?_
      try go_wp2
      go_meet
      case rel => exact ⟨_, (t323), (t324), (t297), (y325), (.slice Ao11 t297.length co11), (.slice Ao41 y325.length co41), H', ⟨by first | omega | exact Nat.le_refl _⟩, ⟨rP (Kd.R_mono (Kd.R_far (p := ⟨gb305, 1, none⟩) (Kd.R_types HO299.out BK305.out (by decide)) (fun _ hk => hk.2) (.slice Ao41 y325.length co41)) (fun _ hk => trivial))⟩, ⟨rP (Kd.R_mono (Kd.R_far (p := ⟨gb305, 1, none⟩) (Kd.R_types HO327.out BK305.out (by decide)) (fun _ hk => hk.2) (.slice Ao41 y325.length co41)) (fun _ hk => trivial))⟩, ⟨kP BK296⟩, ⟨by (with_reducible repeat (first | refine blk_drewN ?_ _ | refine blk_drew ?_ | refine blk_alloc ?_ _)); refine blk_put (cs := #[.slice Ao11 t297.length co11, .slice Ao15 t300.length co15]) ?_ 1 _ rfl; (with_reducible repeat (first | refine blk_drewN ?_ _ | refine blk_drew ?_ | refine blk_alloc ?_ _)); exact BK305.out⟩, ⟨IsS123.iI HI0⟩, ⟨bK HK⟩, ⟨bB⟩⟩
     rw [if_neg c34] at H
     exact absurd H (by simp)
    rw [if_neg c32] at H
    have c32b0 : (t315 == 1) = false := beq_eq_false_iff_ne.mpr c32
    have c32b1 : (t315 != 1) = true := bne_iff_ne.mpr c32
    by_cases c43 : t315 = 2
    ·rw [if_pos c43] at H
     have c43b0 : (t315 == 2) = true := beq_iff_eq.mpr c43
     have c43b1 : (t315 != 2) = false := bne_eq_false_iff_eq.mpr c43
     clear c43
     by_cases c44 : t300.length < 5864062014805
     ·rw [if_pos c44] at H
      have LMc44 := aM c44
      clear c44
      obtain ⟨y328, hy328⟩ : ∃ y_ : List (S65), y_ = (t300 ++ [(⟨0, strOfNums y312⟩ : S65)]) := ⟨_, rfl⟩
      replace H : (spec_l3Draw.j0 k s0_0 t316 t317 t297 y328) = some (r1, r2, r3, r4) := by first | (rw [hy328]; with_reducible exact H) | (have H2_ := (Option.bind_some _ _).symm.trans H; rw [hy328]; with_reducible exact H2_) | (have H2_ := (Option.bind_some _ _).symm.trans H; with_reducible exact H2_) | with_reducible exact H | (rw [hy328]; exact H) | exact H
      have Ny328 := aM hy328
      clear hy328
      have H' := aM H
      clear H
      have hnb45 := NB305_296.out
      have hnc45 := NB296_305.out
      have hnb46 := NB305_0.out
      have hnc46 := NB0_305.out
      have hcz47_0 := cZ0 BK305
      have hcz47_1 := cZ1 BK305
      have hfz47_0 := blk_frozen BK305.out 0
      have hfz47_1 := blk_frozen BK305.out 1
      go_wp2_with (first | ((with_reducible refine gate_builtin (b := .append) (xs := #[.tmp 37, .tmp 40]) rfl ?_); at_builtin; refine Kd.R_append k65 w.heap.size rfl (.tmp 37) (.tmp 40) 28 65 (.agg #[(.int .i64 0), (.string ⟨#[]⟩)]) 24 rfl Try.underlying28 info65 rfl (by decide) (by omega) (.slice Ao15 t300.length co15) t300 (⟨0, strOfNums y312⟩ : S65) [.int .i64 0, .string (strOfNums y312)] (fun _ => True) (fun _ => False) rfl rfl ?aP (fun _ hk => hk.elim) ?aF ?aO (Below.refl _ _) ?aS ?aL ?_; (case aP => exact k65_mkM _ _ _ (⟨0, strOfNums y312⟩ : S65)); (case aF => exact (fun _ _ => trivial)); (case aO => exact (rP HO302.out)); (case aS => exact (keep_size (w := w) (g := g) (row := none) (bK HK))); (case aL => have := LMc44.out; omega); intro v329 w48 ho hb hg hat; rw [← Ny328.out] at ho; have n_ := aI (aM (IsS123.grown (IsS123.iI HI0) hg (IsS123.own_ne HI0.out HO302.out (by decide)))) (aI (aM (blk_grown (g := gb296) (o := .cells #[.slice none 0 0, .slice none 0 0] 30 (0, 0)) (kP BK296) hg (Kd.R_ne HO302.out BK296.out (by decide)))) (aI (aM (Kd.R_over' (rP HO299.out) (Kd.R_typed (rP HO302.out)) (by decide) hg)) (aI (aM (blk_grown (g := gb305) (o := .cells #[.slice Ao11 t297.length co11, .slice Ao15 t300.length co15] 30 (0, 0)) (kP BK305) hg (Kd.R_ne HO302.out BK305.out (by decide)))) (aI (aM (Kd.R_over' (rP HO308.out) (Kd.R_typed (rP HO302.out)) (by decide) hg)) (aI (aM (Kd.R_over' (rP HO314.out) (Kd.R_typed (rP HO302.out)) (by decide) hg)) (aI (aM (below_weaken bB HL.out hb)) (aI (aM (KeepBut.trans (bK HK) (KeepBut.of_grown hg g) (Kd.R_base2 HO302.out))) (aM (ho))))))))); clear HI0 BK296 HO299 BK305 HO308 HO314 HB HK HO302; obtain ⟨HI0, BK296, HO299, BK305, HO308, HO314, HB, HK, HO330⟩ := n_; (try clear ho hb hg hat); obtain ⟨Ao49, co49, eo49⟩ := Kd.R_slice HO330.out; subst eo49; have hcz50_0 := cZ0 BK305; have hcz50_1 := cZ1 BK305; have hfz50_0 := blk_frozen BK305.out 0; have hfz50_1 := blk_frozen BK305.out 1))
      go_meet
      case rel => exact ⟨_, (t316), (t317), (t297), (y328), (.slice Ao11 t297.length co11), (.slice Ao49 y328.length co49), H', ⟨by first | omega | exact Nat.le_refl _⟩, ⟨rP (Kd.R_mono (Kd.R_far (p := ⟨gb305, 1, none⟩) (Kd.R_types HO299.out BK305.out (by decide)) (fun _ hk => hk.2) (.slice Ao49 y328.length co49)) (fun _ hk => trivial))⟩, ⟨rP (Kd.R_mono (Kd.R_far (p := ⟨gb305, 1, none⟩) (Kd.R_types HO330.out BK305.out (by decide)) (fun _ hk => hk.2) (.slice Ao49 y328.length co49)) (fun _ hk => trivial))⟩, ⟨kP BK296⟩, ⟨by (with_reducible repeat (first | refine blk_drewN ?_ _ | refine blk_drew ?_ | refine blk_alloc ?_ _)); refine blk_put (cs := #[.slice Ao11 t297.length co11, .slice Ao15 t300.length co15]) ?_ 1 _ rfl; (with_reducible repeat (first | refine blk_drewN ?_ _ | refine blk_drew ?_ | refine blk_alloc ?_ _)); exact BK305.out⟩, ⟨IsS123.iI HI0⟩, ⟨bK HK⟩, ⟨bB⟩⟩
     rw [if_neg c44] at H
     exact absurd H (by simp)
    rw [if_neg c43] at H
    have c43b0 : (t315 == 2) = false := beq_eq_false_iff_ne.mpr c43
    have c43b1 : (t315 != 2) = true := bne_iff_ne.mpr c43
    by_cases c51 : t315 = 3
    ·rw [if_pos c51] at H
     have c51b0 : (t315 == 3) = true := beq_iff_eq.mpr c51
     have c51b1 : (t315 != 3) = false := bne_eq_false_iff_eq.mpr c51
     clear c51
     obtain ⟨y331, hy331⟩ : ∃ y_ : List Int, y_ = (([120, 121] : List Int)) := ⟨_, rfl⟩
     replace H : ((spec_l1PickInt.f s0_0 t316 t317 y331).bind fun bt334 => (if 0 ≤ bt334.1 then (if (bt334.1 : Int).toNat ≤ 17592186044416 then (spec_l3Draw.j0 k s0_0 bt334.2.1 bt334.2.2 (List.replicate (bt334.1 : Int).toNat (⟨#[]⟩ : ByteArray)) t300) else (none)) else (none))) = some (r1, r2, r3, r4) := by first | (rw [hy331]; with_reducible exact H) | (have H2_ := (Option.bind_some _ _).symm.trans H; rw [hy331]; with_reducible exact H2_) | (have H2_ := (Option.bind_some _ _).symm.trans H; with_reducible exact H2_) | with_reducible exact H | (rw [hy331]; exact H) | exact H
     have Ny331 := aM hy331
     clear hy331
     replace H := Option.bind_eq_some_iff.mp H
     obtain ⟨⟨t334, t335, t336⟩, A520, H⟩ := H
     try dsimp only at H
     have A52 := aM A520
     clear A520
     by_cases c53 : 0 ≤ t334
     ·rw [if_pos c53] at H
      have c53b0 := eq_true c53
      have c53b1 : decide (0 ≤ t334) = true := decide_eq_true c53
      clear c53
      by_cases c54 : (t334 : Int).toNat ≤ 17592186044416
      ·rw [if_pos c54] at H
       have c54b0 := eq_true c54
       have c54b1 : decide ((t334 : Int).toNat ≤ 17592186044416) = true := decide_eq_true c54
       clear c54
       obtain ⟨y337, hy337⟩ : ∃ y_ : List ByteArray, y_ = (List.replicate (t334 : Int).toNat (⟨#[]⟩ : ByteArray)) := ⟨_, rfl⟩
       replace H : (spec_l3Draw.j0 k s0_0 t335 t336 y337 t300) = some (r1, r2, r3, r4) := by first | (rw [hy337]; with_reducible exact H) | (have H2_ := (Option.bind_some _ _).symm.trans H; rw [hy337]; with_reducible exact H2_) | (have H2_ := (Option.bind_some _ _).symm.trans H; with_reducible exact H2_) | with_reducible exact H | (rw [hy337]; exact H) | exact H
       have Ny337 := aM hy337
       clear hy337
       have H' := aM H
       clear H
       go_wp2_with (first | ((with_reducible refine gate_dst (N := 46) rfl ?_); refine Kd.R_lit (Kd.int .i64) _ 3 ?hg (N := 46) ?hd (xs := ([120, 121] : List Int)) (inner := [.int .i64 120, .int .i64 121]) (ok := fun _ => True) (okp := fun _ => True) ?hr ?hp (fun _ hk => hk) trivial (Below.refl _ _) (Nat.le_refl _) (by simp) ?_; (case hd => rfl); (case hg => rfl); (case hr => first | (go_simp; done) | (go_simp; rfl)); (case hp => exact (Reps.one (show Kd.M (Kd.int .i64) _ _ _ 120 [.int .i64 120] from rfl) (Reps.one (show Kd.M (Kd.int .i64) _ _ _ 121 [.int .i64 121] from rfl) (Reps.none _ _)))); intro v332 w55 ho56 hb hg_ hnew_; clear hg_ hnew_; (first | rw [← Ny331.out] at ho56 | (simp only [Int.reduceToNat] at ho56; rw [← Ny331.out] at ho56)); have n_ := aI (rB HO299 hb) (aI (rB HO302 hb) (aI (eR HO308 ho56 hb) (aI (rB HO314 hb) (aI (aM (Kd.R_lower (Kd.R_new' ho56 (rL HO308)) (keep_size (w := w) (g := g) (row := none) (bK HK)))) (aI (aM (IsS123.below (IsS123.iI HI0) hb)) (aI (kB BK296 hb) (aI (kB BK305 hb) (aI (aM (KeepBut.trans (bK HK) (KeepBut.of_below hb g none) (.inl rfl))) (sB HB hb))))))))); clear HO299 HO302 HO308 HO314 HI0 BK296 BK305 HK HB; obtain ⟨HO299, HO302, HO308, HO314, HO333, HI0, BK296, BK305, HK, HB⟩ := n_; (try clear hb ho56); obtain ⟨Ao57, co57, eo57⟩ := Kd.R_slice HO333.out; subst eo57) | ((with_reducible refine gate_callee (f := 98) rfl ?_); refine gL (some 47) Try.func98 #[.pointer (some ⟨g, 0, none⟩), .slice Ao57 y331.length co57] ?_; (with_reducible refine (spec_l1PickInt.calls g s0_0 t316 t317 _ _ y331 t334 t335 t336 w0 _ ?side1 ?side2 ?side3 ?side4 ?side5 A52.out).mono ?_); (case side1 => repeat (first | (with_reducible first | exact HI0.out | apply IsS123.alloc | apply IsS123.drewN | apply IsS123.drew | apply IsS123.set_1 | apply IsS123.set_2 | refine IsS123.far ?_ NB0_296.out _ | refine IsS123.far ?_ NB0_305.out _) | exact HI0.out)); (case side2 => repeat (first | (with_reducible first | exact HB.out | apply below_alloc | apply pw_below_drewN | apply below_drew1 | refine below_set ?_ (IsS123.ge HI0.out) | refine below_set ?_ GE296.out | refine below_set ?_ GE305.out) | exact HB.out)); (case side3 => exact cR HO333); (case side4 => exact (Kd.R_reads' HO333.out).2.1); (case side5 => exact far_slice (IsS123.own_ne HI0.out HO333.out (by decide))); rintro e w58 ⟨rfl, hi, hb, hk⟩; refine ⟨_, rfl, ?_⟩; have n_ := aI (aM (KeepBut.blk hk (g' := gb296) (o := .cells #[.slice none 0 0, .slice none 0 0] 30 (0, 0)) (kP BK296) NB296_0.out (by simp))) (aI (aM (Kd.R_mono (Kd.R_keep (IsS123.apart (show IsS123 w0 _ g s0_0 t316 t317 from IsS123.iI HI0) (rP HO299.out) (by decide)) hk (fun _ h => h.2)) (fun _ h => h.1))) (aI (aM (Kd.R_mono (Kd.R_keep (IsS123.apart (show IsS123 w0 _ g s0_0 t316 t317 from IsS123.iI HI0) (rP HO302.out) (by decide)) hk (fun _ h => h.2)) (fun _ h => h.1))) (aI (aM (KeepBut.blk hk (g' := gb305) (o := .cells #[.slice Ao11 t297.length co11, .slice Ao15 t300.length co15] 30 (0, 0)) (kP BK305) NB305_0.out (by simp))) (aI (aM (Kd.R_mono (Kd.R_keep (IsS123.apart (show IsS123 w0 _ g s0_0 t316 t317 from IsS123.iI HI0) (rP HO308.out) (by decide)) hk (fun _ h => h.2)) (fun _ h => h.1))) (aI (aM (Kd.R_mono (Kd.R_keep (IsS123.apart (show IsS123 w0 _ g s0_0 t316 t317 from IsS123.iI HI0) (rP HO314.out) (by decide)) hk (fun _ h => h.2)) (fun _ h => h.1))) (aI (aM (Kd.R_mono (Kd.R_keep (IsS123.apart (show IsS123 w0 _ g s0_0 t316 t317 from IsS123.iI HI0) (rP HO333.out) (by decide)) hk (fun _ h => h.2)) (fun _ h => h.1))) (aI (aM (KeepBut.trans (bK HK) hk (.inl rfl))) (aI (aM (hb)) (aM (hi)))))))))); clear BK296 HO299 HO302 BK305 HO308 HO314 HO333 HK HB HI0; obtain ⟨BK296, HO299, HO302, BK305, HO308, HO314, HO333, HK, HB, HI0⟩ := n_; (try clear hb hk hi)) | ((with_reducible refine gate_dst (N := 48) rfl ?_); refine Kd.R_make Kd.string _ 9 rfl (N := 48) rfl 22 _ _ rfl t334 rfl rfl Try.underlying22 (.string ⟨#[]⟩) 16 info9 rfl (by decide) (by omega) (⟨#[]⟩ : ByteArray) (ok := fun _ => True) (okp := fun _ => True) rfl (fun _ hk => hk) trivial (dT) (Nat.le_trans (Nat.mul_le_mul_right _ (dT : t334.toNat ≤ 17592186044416)) (by omega)) (Below.refl _ _) (Nat.le_refl _) ?_; intro v338 w59 ho60 hb hg_ hnew_; clear hg_ hnew_; (first | rw [← Ny337.out] at ho60 | (simp only [Int.reduceToNat] at ho60; rw [← Ny337.out] at ho60)); have n_ := aI (eR HO299 ho60 hb) (aI (rB HO302 hb) (aI (rB HO308 hb) (aI (rB HO314 hb) (aI (rB HO333 hb) (aI (aM (Kd.R_lower (Kd.R_new' ho60 (rL HO299)) (keep_size (w := w) (g := g) (row := none) (bK HK)))) (aI (aM (IsS123.below (IsS123.iI HI0) hb)) (aI (kB BK296 hb) (aI (kB BK305 hb) (aI (aM (KeepBut.trans (bK HK) (KeepBut.of_below hb g none) (.inl rfl))) (sB HB hb)))))))))); clear HO299 HO302 HO308 HO314 HO333 HI0 BK296 BK305 HK HB; obtain ⟨HO299, HO302, HO308, HO314, HO333, HO339, HI0, BK296, BK305, HK, HB⟩ := n_; (try clear hb ho60); obtain ⟨Ao61, co61, eo61⟩ := Kd.R_slice HO339.out; subst eo61; have hnb62 := NB305_296.out; have hnc62 := NB296_305.out; have hnb63 := NB305_0.out; have hnc63 := NB0_305.out; have hcz64_0 := cZ0 BK305; have hcz64_1 := cZ1 BK305; have hfz64_0 := blk_frozen BK305.out 0; have hfz64_1 := blk_frozen BK305.out 1))
       go_meet
       case rel => exact ⟨_, (t335), (t336), (y337), (t300), (.slice Ao61 y337.length co61), (.slice Ao15 t300.length co15), H', ⟨by first | omega | exact Nat.le_refl _⟩, ⟨rP (Kd.R_mono (Kd.R_far (p := ⟨gb305, 0, none⟩) (Kd.R_types HO339.out BK305.out (by decide)) (fun _ hk => hk.2) (.slice Ao61 y337.length co61)) (fun _ hk => trivial))⟩, ⟨rP (Kd.R_mono (Kd.R_far (p := ⟨gb305, 0, none⟩) (Kd.R_types HO302.out BK305.out (by decide)) (fun _ hk => hk.2) (.slice Ao61 y337.length co61)) (fun _ hk => trivial))⟩, ⟨kP BK296⟩, ⟨by (with_reducible repeat (first | refine blk_drewN ?_ _ | refine blk_drew ?_ | refine blk_alloc ?_ _)); refine blk_put (cs := #[.slice Ao11 t297.length co11, .slice Ao15 t300.length co15]) ?_ 0 _ rfl; (with_reducible repeat (first | refine blk_drewN ?_ _ | refine blk_drew ?_ | refine blk_alloc ?_ _)); exact BK305.out⟩, ⟨IsS123.iI HI0⟩, ⟨bK HK⟩, ⟨bB⟩⟩
      rw [if_neg c54] at H
      exact absurd H (by simp)
     rw [if_neg c53] at H
     exact absurd H (by simp)
    rw [if_neg c51] at H
    have c51b0 : (t315 == 3) = false := beq_eq_false_iff_ne.mpr c51
    have c51b1 : (t315 != 3) = true := bne_iff_ne.mpr c51
    by_cases c65 : t315 = 4
    ·rw [if_pos c65] at H
     have c65b0 : (t315 == 4) = true := beq_iff_eq.mpr c65
     have c65b1 : (t315 != 4) = false := bne_eq_false_iff_eq.mpr c65
     clear c65
     obtain ⟨y340, hy340⟩ : ∃ y_ : List Int, y_ = (([399, 400, 401] : List Int)) := ⟨_, rfl⟩
     replace H : ((spec_l1PickInt.f s0_0 t316 t317 y340).bind fun bt343 => (if 0 ≤ bt343.1 then (if (bt343.1 : Int).toNat ≤ 11728124029610 then (spec_l3Draw.j0 k s0_0 bt343.2.1 bt343.2.2 t297 (List.replicate (bt343.1 : Int).toNat z65)) else (none)) else (none))) = some (r1, r2, r3, r4) := by first | (rw [hy340]; with_reducible exact H) | (have H2_ := (Option.bind_some _ _).symm.trans H; rw [hy340]; with_reducible exact H2_) | (have H2_ := (Option.bind_some _ _).symm.trans H; with_reducible exact H2_) | with_reducible exact H | (rw [hy340]; exact H) | exact H
     have Ny340 := aM hy340
     clear hy340
     replace H := Option.bind_eq_some_iff.mp H
     obtain ⟨⟨t343, t344, t345⟩, A660, H⟩ := H
     try dsimp only at H
     have A66 := aM A660
     clear A660
     by_cases c67 : 0 ≤ t343
     ·rw [if_pos c67] at H
      have c67b0 := eq_true c67
      have c67b1 : decide (0 ≤ t343) = true := decide_eq_true c67
      clear c67
      by_cases c68 : (t343 : Int).toNat ≤ 11728124029610
      ·rw [if_pos c68] at H
       have c68b0 := eq_true c68
       have c68b1 : decide ((t343 : Int).toNat ≤ 11728124029610) = true := decide_eq_true c68
       clear c68
       obtain ⟨y346, hy346⟩ : ∃ y_ : List (S65), y_ = (List.replicate (t343 : Int).toNat z65) := ⟨_, rfl⟩
       replace H : (spec_l3Draw.j0 k s0_0 t344 t345 t297 y346) = some (r1, r2, r3, r4) := by first | (rw [hy346]; with_reducible exact H) | (have H2_ := (Option.bind_some _ _).symm.trans H; rw [hy346]; with_reducible exact H2_) | (have H2_ := (Option.bind_some _ _).symm.trans H; with_reducible exact H2_) | with_reducible exact H | (rw [hy346]; exact H) | exact H
       have Ny346 := aM hy346
       clear hy346
       have H' := aM H
       clear H
       go_wp2_with (first | ((with_reducible refine gate_dst (N := 53) rfl ?_); refine Kd.R_lit (Kd.int .i64) _ 3 ?hg (N := 53) ?hd (xs := ([399, 400, 401] : List Int)) (inner := [.int .i64 399, .int .i64 400, .int .i64 401]) (ok := fun _ => True) (okp := fun _ => True) ?hr ?hp (fun _ hk => hk) trivial (Below.refl _ _) (Nat.le_refl _) (by simp) ?_; (case hd => rfl); (case hg => rfl); (case hr => first | (go_simp; done) | (go_simp; rfl)); (case hp => exact (Reps.one (show Kd.M (Kd.int .i64) _ _ _ 399 [.int .i64 399] from rfl) (Reps.one (show Kd.M (Kd.int .i64) _ _ _ 400 [.int .i64 400] from rfl) (Reps.one (show Kd.M (Kd.int .i64) _ _ _ 401 [.int .i64 401] from rfl) (Reps.none _ _))))); intro v341 w69 ho70 hb hg_ hnew_; clear hg_ hnew_; (first | rw [← Ny340.out] at ho70 | (simp only [Int.reduceToNat] at ho70; rw [← Ny340.out] at ho70)); have n_ := aI (rB HO299 hb) (aI (rB HO302 hb) (aI (eR HO308 ho70 hb) (aI (rB HO314 hb) (aI (aM (Kd.R_lower (Kd.R_new' ho70 (rL HO308)) (keep_size (w := w) (g := g) (row := none) (bK HK)))) (aI (aM (IsS123.below (IsS123.iI HI0) hb)) (aI (kB BK296 hb) (aI (kB BK305 hb) (aI (aM (KeepBut.trans (bK HK) (KeepBut.of_below hb g none) (.inl rfl))) (sB HB hb))))))))); clear HO299 HO302 HO308 HO314 HI0 BK296 BK305 HK HB; obtain ⟨HO299, HO302, HO308, HO314, HO342, HI0, BK296, BK305, HK, HB⟩ := n_; (try clear hb ho70); obtain ⟨Ao71, co71, eo71⟩ := Kd.R_slice HO342.out; subst eo71) | ((with_reducible refine gate_callee (f := 98) rfl ?_); refine gL (some 54) Try.func98 #[.pointer (some ⟨g, 0, none⟩), .slice Ao71 y340.length co71] ?_; (with_reducible refine (spec_l1PickInt.calls g s0_0 t316 t317 _ _ y340 t343 t344 t345 w0 _ ?side1 ?side2 ?side3 ?side4 ?side5 A66.out).mono ?_); (case side1 => repeat (first | (with_reducible first | exact HI0.out | apply IsS123.alloc | apply IsS123.drewN | apply IsS123.drew | apply IsS123.set_1 | apply IsS123.set_2 | refine IsS123.far ?_ NB0_296.out _ | refine IsS123.far ?_ NB0_305.out _) | exact HI0.out)); (case side2 => repeat (first | (with_reducible first | exact HB.out | apply below_alloc | apply pw_below_drewN | apply below_drew1 | refine below_set ?_ (IsS123.ge HI0.out) | refine below_set ?_ GE296.out | refine below_set ?_ GE305.out) | exact HB.out)); (case side3 => exact cR HO342); (case side4 => exact (Kd.R_reads' HO342.out).2.1); (case side5 => exact far_slice (IsS123.own_ne HI0.out HO342.out (by decide))); rintro e w72 ⟨rfl, hi, hb, hk⟩; refine ⟨_, rfl, ?_⟩; have n_ := aI (aM (KeepBut.blk hk (g' := gb296) (o := .cells #[.slice none 0 0, .slice none 0 0] 30 (0, 0)) (kP BK296) NB296_0.out (by simp))) (aI (aM (Kd.R_mono (Kd.R_keep (IsS123.apart (show IsS123 w0 _ g s0_0 t316 t317 from IsS123.iI HI0) (rP HO299.out) (by decide)) hk (fun _ h => h.2)) (fun _ h => h.1))) (aI (aM (Kd.R_mono (Kd.R_keep (IsS123.apart (show IsS123 w0 _ g s0_0 t316 t317 from IsS123.iI HI0) (rP HO302.out) (by decide)) hk (fun _ h => h.2)) (fun _ h => h.1))) (aI (aM (KeepBut.blk hk (g' := gb305) (o := .cells #[.slice Ao11 t297.length co11, .slice Ao15 t300.length co15] 30 (0, 0)) (kP BK305) NB305_0.out (by simp))) (aI (aM (Kd.R_mono (Kd.R_keep (IsS123.apart (show IsS123 w0 _ g s0_0 t316 t317 from IsS123.iI HI0) (rP HO308.out) (by decide)) hk (fun _ h => h.2)) (fun _ h => h.1))) (aI (aM (Kd.R_mono (Kd.R_keep (IsS123.apart (show IsS123 w0 _ g s0_0 t316 t317 from IsS123.iI HI0) (rP HO314.out) (by decide)) hk (fun _ h => h.2)) (fun _ h => h.1))) (aI (aM (Kd.R_mono (Kd.R_keep (IsS123.apart (show IsS123 w0 _ g s0_0 t316 t317 from IsS123.iI HI0) (rP HO342.out) (by decide)) hk (fun _ h => h.2)) (fun _ h => h.1))) (aI (aM (KeepBut.trans (bK HK) hk (.inl rfl))) (aI (aM (hb)) (aM (hi)))))))))); clear BK296 HO299 HO302 BK305 HO308 HO314 HO342 HK HB HI0; obtain ⟨BK296, HO299, HO302, BK305, HO308, HO314, HO342, HK, HB, HI0⟩ := n_; (try clear hb hk hi)) | ((with_reducible refine gate_dst (N := 55) rfl ?_); refine Kd.R_make k65 _ 65 rfl (N := 55) rfl 28 _ _ rfl t343 rfl rfl Try.underlying28 (.agg #[(.int .i64 0), (.string ⟨#[]⟩)]) 24 info65 rfl (by decide) (by omega) z65 (ok := fun _ => True) (okp := fun _ => True) (k65_mkM _ _ _ z65 ) (fun _ hk => hk) trivial (dT) (Nat.le_trans (Nat.mul_le_mul_right _ (dT : t343.toNat ≤ 11728124029610)) (by omega)) (Below.refl _ _) (Nat.le_refl _) ?_; intro v347 w73 ho74 hb hg_ hnew_; clear hg_ hnew_; (first | rw [← Ny346.out] at ho74 | (simp only [Int.reduceToNat] at ho74; rw [← Ny346.out] at ho74)); have n_ := aI (rB HO299 hb) (aI (eR HO302 ho74 hb) (aI (rB HO308 hb) (aI (rB HO314 hb) (aI (rB HO342 hb) (aI (aM (Kd.R_lower (Kd.R_new' ho74 (rL HO302)) (keep_size (w := w) (g := g) (row := none) (bK HK)))) (aI (aM (IsS123.below (IsS123.iI HI0) hb)) (aI (kB BK296 hb) (aI (kB BK305 hb) (aI (aM (KeepBut.trans (bK HK) (KeepBut.of_below hb g none) (.inl rfl))) (sB HB hb)))))))))); clear HO299 HO302 HO308 HO314 HO342 HI0 BK296 BK305 HK HB; obtain ⟨HO299, HO302, HO308, HO314, HO342, HO348, HI0, BK296, BK305, HK, HB⟩ := n_; (try clear hb ho74); obtain ⟨Ao75, co75, eo75⟩ := Kd.R_slice HO348.out; subst eo75; have hnb76 := NB305_296.out; have hnc76 := NB296_305.out; have hnb77 := NB305_0.out; have hnc77 := NB0_305.out; have hcz78_0 := cZ0 BK305; have hcz78_1 := cZ1 BK305; have hfz78_0 := blk_frozen BK305.out 0; have hfz78_1 := blk_frozen BK305.out 1))
       go_meet
       case rel => exact ⟨_, (t344), (t345), (t297), (y346), (.slice Ao11 t297.length co11), (.slice Ao75 y346.length co75), H', ⟨by first | omega | exact Nat.le_refl _⟩, ⟨rP (Kd.R_mono (Kd.R_far (p := ⟨gb305, 1, none⟩) (Kd.R_types HO299.out BK305.out (by decide)) (fun _ hk => hk.2) (.slice Ao75 y346.length co75)) (fun _ hk => trivial))⟩, ⟨rP (Kd.R_mono (Kd.R_far (p := ⟨gb305, 1, none⟩) (Kd.R_types HO348.out BK305.out (by decide)) (fun _ hk => hk.2) (.slice Ao75 y346.length co75)) (fun _ hk => trivial))⟩, ⟨kP BK296⟩, ⟨by (with_reducible repeat (first | refine blk_drewN ?_ _ | refine blk_drew ?_ | refine blk_alloc ?_ _)); refine blk_put (cs := #[.slice Ao11 t297.length co11, .slice Ao15 t300.length co15]) ?_ 1 _ rfl; (with_reducible repeat (first | refine blk_drewN ?_ _ | refine blk_drew ?_ | refine blk_alloc ?_ _)); exact BK305.out⟩, ⟨IsS123.iI HI0⟩, ⟨bK HK⟩, ⟨bB⟩⟩
      rw [if_neg c68] at H
      exact absurd H (by simp)
     rw [if_neg c67] at H
     exact absurd H (by simp)
    rw [if_neg c65] at H
    have c65b0 : (t315 == 4) = false := beq_eq_false_iff_ne.mpr c65
    have c65b1 : (t315 != 4) = true := bne_iff_ne.mpr c65
    have H' := aM H
    clear H
    go_wp2
    go_meet
    case rel => exact ⟨_, (t316), (t317), (t297), (t300), (.slice Ao11 t297.length co11), (.slice Ao15 t300.length co15), H', ⟨by first | omega | exact Nat.le_refl _⟩, ⟨rP HO299.out⟩, ⟨rP HO302.out⟩, ⟨kP BK296⟩, ⟨kP BK305⟩, ⟨IsS123.iI HI0⟩, ⟨bK HK⟩, ⟨bB⟩⟩
   case rest =>
    clear HC7
    try clear c1
    try clear c2
    try clear p2
    try clear q2
    try clear hx2
    try clear hcv2
    try clear qi2
    try clear hf2
    try clear c3
    try clear c4
    try clear c4b0
    try clear c4b1
    try clear c5
    try clear c5b0
    try clear c5b1
    try clear c6
    try clear c7
    try clear c8
    try clear c9
    try clear c11
    try clear c12
    try clear c13
    try clear hcv22
    try clear c24
    try clear c24b0
    try clear c24b1
    try clear c24b2
    try clear c25
    try clear c25b0
    try clear c25b1
    try clear p26
    try clear q26
    try clear hx26
    try clear qi26
    try clear hf26
    try clear c27
    try clear c28
    try clear c32
    try clear c32b0
    try clear c32b1
    try clear c34
    try clear c43
    try clear c43b0
    try clear c43b1
    try clear c44
    try clear c45
    try clear c46
    try clear c51
    try clear c51b0
    try clear c51b1
    try clear c53
    try clear c53b0
    try clear c53b1
    try clear c54
    try clear c54b0
    try clear c54b1
    try clear c62
    try clear c63
    try clear c65
    try clear c65b0
    try clear c65b1
    try clear c67
    try clear c67b0
    try clear c67b1
    try clear c68
    try clear c68b0
    try clear c68b1
    try clear c76
    try clear c77
    try clear hcz14_0
    try clear hcz14_1
    try clear hcz29_0
    try clear hcz29_1
    try clear hcz47_0
    try clear hcz47_1
    try clear hcz50_0
    try clear hcz50_1
    try clear hcz64_0
    try clear hcz64_1
    try clear hcz78_0
    try clear hcz78_1
    try clear hfz14_0
    try clear hfz14_1
    try clear hfz29_0
    try clear hfz29_1
    try clear hfz47_0
    try clear hfz47_1
    try clear hfz50_0
    try clear hfz50_1
    try clear hfz64_0
    try clear hfz64_1
    try clear hfz78_0
    try clear hfz78_1
    try clear hx26_0
    try clear p26
    try clear q26
    obtain ⟨kq, x1001_6, x1002_6, x306000_6, x306001_6, u306000, u306001, HA, HJ6, HO_306000, HO_306001, BK296, BK305, HI0, HK, HB⟩ := hcut
    cases kq with
    | zero => exact absurd HA.out (by simp [spec_l3Draw.j0])
    | succ kj6 =>
     have H := HA.out
     clear HA
     simp only [spec_l3Draw.j0] at H
     simp only [Option.some.injEq, Prod.mk.injEq] at H
     obtain ⟨rfl, rfl, rfl, rfl⟩ := H
     have hnb79 := NB305_296.out
     have hnc79 := NB296_305.out
     have hnb80 := NB305_0.out
     have hnc80 := NB0_305.out
     have hcz81_0 := cZ0 BK305
     have hcz81_1 := cZ1 BK305
     have hfz81_0 := blk_frozen BK305.out 0
     have hfz81_1 := blk_frozen BK305.out 1
     obtain ⟨Ao82, co82, eo82⟩ := Kd.R_slice HO_306000.out
     subst eo82
     have hnb83 := NB296_0.out
     have hnc83 := NB0_296.out
     have hcz84_0 := cZ0 BK296
     have hcz84_1 := cZ1 BK296
     have hfz84_0 := blk_frozen BK296.out 0
     have hfz84_1 := blk_frozen BK296.out 1
     obtain ⟨Ao85, co85, eo85⟩ := Kd.R_slice HO_306001.out
     subst eo85
     go_wp2
     refine bodyPost_ret (results_cell_row rfl _ _ gb296 30 #[.slice Ao82 x306000_6.length co82, .slice Ao85 x306001_6.length co85] (0, 0) _ rfl (by (with_reducible repeat (first | refine blk_drewN ?_ _ | refine blk_drew ?_ | refine blk_alloc ?_ _)); refine blk_put (cs := #[.slice Ao82 x306000_6.length co82, .slice none 0 0]) ?_ 1 _ rfl; (with_reducible repeat (first | refine blk_drewN ?_ _ | refine blk_drew ?_ | refine blk_alloc ?_ _)); refine blk_put (cs := #[.slice none 0 0, .slice none 0 0]) ?_ 0 _ rfl; (with_reducible repeat (first | refine blk_drewN ?_ _ | refine blk_drew ?_ | refine blk_alloc ?_ _)); exact BK296.out) Try.underlying30 rfl (by kernel_rfl)) rfl ?_
     exact ⟨_, _, eW, by (with_reducible repeat (first | apply Kd.R_alloc | apply Kd.R_drewN | apply Kd.R_drew)); exact Kd.R_mono (Kd.R_far (p := ⟨gb296, 1, none⟩) (Kd.R_far (p := ⟨gb296, 0, none⟩) (Kd.R_types HO_306000.out BK296.out (by decide)) (fun _ hk => hk.2) (.slice Ao82 x306000_6.length co82)) (fun _ hk => hk.2) (.slice Ao85 x306001_6.length co85)) (fun _ hk => trivial), by (with_reducible repeat (first | apply Kd.R_alloc | apply Kd.R_drewN | apply Kd.R_drew)); exact Kd.R_mono (Kd.R_far (p := ⟨gb296, 1, none⟩) (Kd.R_far (p := ⟨gb296, 0, none⟩) (Kd.R_types HO_306001.out BK296.out (by decide)) (fun _ hk => hk.2) (.slice Ao82 x306000_6.length co82)) (fun _ hk => hk.2) (.slice Ao85 x306001_6.length co85)) (fun _ hk => trivial), IsS123.iI HI0, bB, bK HK⟩
  rw [if_neg c5] at H
  exact absurd H (by simp)
 rw [if_neg c4] at H
 exact absurd H (by simp)

/-! ### spec_l1Once: function 120 -/
def spec_l1Once.f (s0_0 : List Int) (s0_1 : Int) (s0_2 : Int) (a1 : Int) : Option (Bool × Int × Int) := (spec_l1Below.f s0_0 s0_1 s0_2 a1).bind fun bt349 => (some ((bt349.1 == 0), bt349.2.1, bt349.2.2))
set_option maxHeartbeats 8000000 in
set_option maxRecDepth 100000 in
theorem spec_l1Once.calls (g : Nat) (s0_0 : List Int) (s0_1 : Int) (s0_2 : Int) (a1 : Int) (r1 : Bool) (r2 : Int) (r3 : Int) (w0 w : World) (hI : IsS123 w0 w g s0_0 s0_1 s0_2) (hB : Below w0.heap.size w0 w) (h : spec_l1Once.f s0_0 s0_1 s0_2 a1 = some (r1, r2, r3)) :
  Calls Try.prog 120 #[.pointer (some ⟨g, 0, none⟩), .int .i64 a1] w fun e w' => e = .returned (.bool r1) ∧ IsS123 w0 w' g s0_0 r2 r3 ∧ Below w0.heap.size w0 w' ∧ KeepBut w w' g none := by
 have HI0 := aM hI
 have GEg_ := aM (IsS123.ge hI)
 have HK := aM (KeepBut.refl w g none)
 have HL := aM hB.size
 clear hI
 have HW0 := aM hB.size
 have HB := aM hB
 clear hB
 unfold spec_l1Once.f at h
 have H := h
 clear h
 replace H := Option.bind_eq_some_iff.mp H
 obtain ⟨⟨t349, t350, t351⟩, A30, H⟩ := H
 try dsimp only at H
 have A3 := aM A30
 clear A30
 simp only [Option.some.injEq, Prod.mk.injEq] at H
 obtain ⟨rfl, rfl, rfl⟩ := H
 go_enter Try.func120, Try.ntmps120
 go_wp2_with (first | ((with_reducible refine gate_callee (f := 95) rfl ?_); refine gL (some 7) Try.func95 #[.pointer (some ⟨g, 0, none⟩), .int .i64 a1] ?_; (with_reducible refine (spec_l1Below.calls g s0_0 s0_1 s0_2 a1 t349 t350 t351 w0 _ ?side1 ?side2 A3.out).mono ?_); (case side1 => repeat (first | (with_reducible first | exact HI0.out | apply IsS123.alloc | apply IsS123.drewN | apply IsS123.drew | apply IsS123.set_1 | apply IsS123.set_2) | exact HI0.out)); (case side2 => repeat (first | (with_reducible first | exact HB.out | apply below_alloc | apply pw_below_drewN | apply below_drew1 | refine below_set ?_ (IsS123.ge HI0.out)) | exact HB.out)); rintro e w4 ⟨rfl, hi, hb, hk⟩; refine ⟨_, rfl, ?_⟩; have n_ := aI (aM (KeepBut.trans (bK HK) hk (.inl rfl))) (aI (aM (hb)) (aM (hi))); clear HK HB HI0; obtain ⟨HK, HB, HI0⟩ := n_; (try clear hb hk hi)))
 go_ret
 exact ⟨eW, IsS123.iI HI0, bB, bK HK⟩

/-! ### spec_l3Keep: function 90 -/
def spec_l3Keep.l0 : Nat → List Bool → Int → Int → List Int → Int → Int → Option (List Bool × Int × Int)
 | 0, _, _, _, _, _, _ => none
 | k + 1, x3, x4, x5, x1000, x1001, x1002 => if x5 < x4 then ((spec_l1Once.f x1000 x1001 x1002 2).bind fun bt358 => (if x3.length < 140737488355328 then (spec_l3Keep.l0 k (x3 ++ [bt358.1]) x4 (wrap64 (x5 + 1)) x1000 bt358.2.1 bt358.2.2) else (none))) else (some (x3, x1001, x1002))
def spec_l3Keep.f (k : Nat) (s0_0 : List Int) (s0_1 : Int) (s0_2 : Int) : Option (List Bool × Int × Int) := (spec_l1Below.f s0_0 s0_1 s0_2 9).bind fun bt355 => (spec_l3Keep.l0 k (([] : List Bool)) bt355.1 0 s0_0 bt355.2.1 bt355.2.2)
theorem spec_l3Keep.mono_l : ∀ k, (∀ y0 y1 y2 y3 y4 y5, LeO (spec_l3Keep.l0 k y0 y1 y2 y3 y4 y5) (spec_l3Keep.l0 (k + 1) y0 y1 y2 y3 y4 y5))
 | 0 => fun _ _ _ _ _ _ r h => by simp [spec_l3Keep.l0] at h
 | k + 1 => by
  have ih0 := spec_l3Keep.mono_l k
  ·intro y0 y1 y2 y3 y4 y5
   unfold spec_l3Keep.l0
   exact mM
theorem spec_l3Keep.mono : ∀ a0 a1 a2 k, LeO (spec_l3Keep.f k a0 a1 a2) (spec_l3Keep.f (k + 1) a0 a1 a2) := by
 intro a0 a1 a2 k
 have ih0 := spec_l3Keep.mono_l k
 unfold spec_l3Keep.f
 exact mM
set_option maxHeartbeats 8000000 in
set_option maxRecDepth 100000 in
theorem spec_l3Keep.calls (k : Nat) (g : Nat) (s0_0 : List Int) (s0_1 : Int) (s0_2 : Int) (r1 : List Bool) (r2 : Int) (r3 : Int) (w0 w : World) (hI : IsS123 w0 w g s0_0 s0_1 s0_2) (hB : Below w0.heap.size w0 w) (h : spec_l3Keep.f k s0_0 s0_1 s0_2 = some (r1, r2, r3)) :
  Calls Try.prog 90 #[.pointer (some ⟨g, 0, none⟩)] w fun e w' => ∃ v0_ : Value, e = .returned (v0_) ∧ Kd.R Kd.bool 4 w' w.heap.size (fun _ => True) v0_ r1 ∧ IsS123 w0 w' g s0_0 r2 r3 ∧ Below w0.heap.size w0 w' ∧ KeepBut w w' g none := by
 have HI0 := aM hI
 have GEg_ := aM (IsS123.ge hI)
 have HK := aM (KeepBut.refl w g none)
 have HL := aM hB.size
 clear hI
 have HW0 := aM hB.size
 have HB := aM hB
 clear hB
 unfold spec_l3Keep.f at h
 have H := h
 clear h
 obtain ⟨y352, hy352⟩ : ∃ y_ : List Bool, y_ = (([] : List Bool)) := ⟨_, rfl⟩
 replace H : ((spec_l1Below.f s0_0 s0_1 s0_2 9).bind fun bt355 => (spec_l3Keep.l0 k y352 bt355.1 0 s0_0 bt355.2.1 bt355.2.2)) = some (r1, r2, r3) := by first | (rw [hy352]; with_reducible exact H) | (have H2_ := (Option.bind_some _ _).symm.trans H; rw [hy352]; with_reducible exact H2_) | (have H2_ := (Option.bind_some _ _).symm.trans H; with_reducible exact H2_) | with_reducible exact H | (rw [hy352]; exact H) | exact H
 have Ny352 := aM hy352
 clear hy352
 replace H := Option.bind_eq_some_iff.mp H
 obtain ⟨⟨t355, t356, t357⟩, A20, H⟩ := H
 try dsimp only at H
 have A2 := aM A20
 clear A20
 have H' := aM H
 clear H
 go_enter Try.func90, Try.ntmps90
 go_wp2_with (first | ((with_reducible refine gate_dst (N := 6) rfl ?_); refine Kd.R_lit Kd.bool _ 4 ?hg (N := 6) ?hd (xs := ([] : List Bool)) (inner := []) (ok := fun _ => True) (okp := fun _ => True) ?hr ?hp (fun _ hk => hk) trivial (Below.refl _ _) (Nat.le_refl _) (by simp) ?_; (case hd => rfl); (case hg => rfl); (case hr => first | (go_simp; done) | (go_simp; rfl)); (case hp => exact (Reps.none _ _)); intro v353 w3 ho4 hb hg_ hnew_; clear hg_ hnew_; (first | rw [← Ny352.out] at ho4 | (simp only [Int.reduceToNat] at ho4; rw [← Ny352.out] at ho4)); have n_ := aI (aM (Kd.R_lower ho4 (keep_size (w := w) (g := g) (row := none) (bK HK)))) (aI (aM (IsS123.below (IsS123.iI HI0) hb)) (aI (aM (KeepBut.trans (bK HK) (KeepBut.of_below hb g none) (.inl rfl))) (sB HB hb))); clear HI0 HK HB; obtain ⟨HO354, HI0, HK, HB⟩ := n_; (try clear hb ho4)) | ((with_reducible refine gate_callee (f := 95) rfl ?_); refine gL (some 8) Try.func95 #[.pointer (some ⟨g, 0, none⟩), .int .i64 9] ?_; (with_reducible refine (spec_l1Below.calls g s0_0 s0_1 s0_2 9 t355 t356 t357 w0 _ ?side1 ?side2 A2.out).mono ?_); (case side1 => repeat (first | (with_reducible first | exact HI0.out | apply IsS123.alloc | apply IsS123.drewN | apply IsS123.drew | apply IsS123.set_1 | apply IsS123.set_2) | exact HI0.out)); (case side2 => repeat (first | (with_reducible first | exact HB.out | apply below_alloc | apply pw_below_drewN | apply below_drew1 | refine below_set ?_ (IsS123.ge HI0.out)) | exact HB.out)); rintro e w5 ⟨rfl, hi, hb, hk⟩; refine ⟨_, rfl, ?_⟩; have n_ := aI (aM (Kd.R_mono (Kd.R_keep (IsS123.apart (show IsS123 w0 _ g s0_0 s0_1 s0_2 from IsS123.iI HI0) (rP HO354.out) (by decide)) hk (fun _ h => h.2)) (fun _ h => h.1))) (aI (aM (KeepBut.trans (bK HK) hk (.inl rfl))) (aI (aM (hb)) (aM (hi)))); clear HO354 HK HB HI0; obtain ⟨HO354, HK, HB, HI0⟩ := n_; (try clear hb hk hi)))
 go_loopg [3, 5] k (fun kq v3 v5 w' => ∃ (x3_1 : List Bool) (x5_1 : Int) (x1001_1 : Int) (x1002_1 : Int), v5 = .int .i64 x5_1 ∧ Aside0 (spec_l3Keep.l0 kq x3_1 t355 x5_1 s0_0 x1001_1 x1002_1 = some (r1, r2, r3)) ∧ Aside0 (kq ≤ k) ∧ Aside0 (Kd.R Kd.bool 4 w' w.heap.size (fun _ => True) v3 x3_1) ∧ Aside0 (IsS123 w0 w' g s0_0 x1001_1 x1002_1) ∧ Aside0 (KeepBut w w' g none) ∧ Aside0 (Below w0.heap.size w0 w'))
 case atStart => exact ⟨(y352), (0), (t356), (t357), (by first | rfl | (simp; done) | (simp [*]; done) | (simp; exact (by intro l_; cases l_ <;> rfl : ∀ l_ : List UInt8, l_.isEmpty = !(l_ != [])) _)), H', ⟨Nat.le_refl _⟩, ⟨rP HO354.out⟩, ⟨IsS123.iI HI0⟩, ⟨bK HK⟩, ⟨bB⟩⟩
 case round =>
  clear H'
  try clear p2
  obtain ⟨x3_1, x5_1, x1001_1, x1002_1, rfl, HA, HK1, HO_3, HI0, HK, HB⟩ := hrel
  cases gk with
  | zero => exact absurd HA.out (by simp [spec_l3Keep.l0])
  | succ k1 =>
   have H := HA.out
   clear HA
   simp only [spec_l3Keep.l0] at H
   by_cases c6 : x5_1 < t355
   ·rw [if_pos c6] at H
    have c6b0 : decide (x5_1 < t355) = true := decide_eq_true c6
    clear c6
    replace H := Option.bind_eq_some_iff.mp H
    obtain ⟨⟨t358, t359, t360⟩, A70, H⟩ := H
    try dsimp only at H
    have A7 := aM A70
    clear A70
    by_cases c8 : x3_1.length < 140737488355328
    ·rw [if_pos c8] at H
     have LMc8 := aM c8
     clear c8
     obtain ⟨y361, hy361⟩ : ∃ y_ : List Bool, y_ = (x3_1 ++ [t358]) := ⟨_, rfl⟩
     replace H : (spec_l3Keep.l0 k1 y361 t355 (wrap64 (x5_1 + 1)) s0_0 t359 t360) = some (r1, r2, r3) := by first | (rw [hy361]; with_reducible exact H) | (have H2_ := (Option.bind_some _ _).symm.trans H; rw [hy361]; with_reducible exact H2_) | (have H2_ := (Option.bind_some _ _).symm.trans H; with_reducible exact H2_) | with_reducible exact H | (rw [hy361]; exact H) | exact H
     have Ny361 := aM hy361
     clear hy361
     have H' := aM H
     clear H
     go_wp2_with (first | ((with_reducible refine gate_callee (f := 120) rfl ?_); refine gL (some 16) Try.func120 #[.pointer (some ⟨g, 0, none⟩), .int .i64 2] ?_; (with_reducible refine (spec_l1Once.calls g s0_0 x1001_1 x1002_1 2 t358 t359 t360 w0 _ ?side1 ?side2 A7.out).mono ?_); (case side1 => repeat (first | (with_reducible first | exact HI0.out | apply IsS123.alloc | apply IsS123.drewN | apply IsS123.drew | apply IsS123.set_1 | apply IsS123.set_2) | exact HI0.out)); (case side2 => repeat (first | (with_reducible first | exact HB.out | apply below_alloc | apply pw_below_drewN | apply below_drew1 | refine below_set ?_ (IsS123.ge HI0.out)) | exact HB.out)); rintro e w9 ⟨rfl, hi, hb, hk⟩; refine ⟨_, rfl, ?_⟩; have n_ := aI (aM (Kd.R_mono (Kd.R_keep (IsS123.apart (show IsS123 w0 _ g s0_0 x1001_1 x1002_1 from IsS123.iI HI0) (rP HO_3.out) (by decide)) hk (fun _ h => h.2)) (fun _ h => h.1))) (aI (aM (KeepBut.trans (bK HK) hk (.inl rfl))) (aI (aM (hb)) (aM (hi)))); clear HO_3 HK HB HI0; obtain ⟨HO_3, HK, HB, HI0⟩ := n_; (try clear hb hk hi)) | ((with_reducible refine gate_builtin (b := .append) (xs := #[.tmp 14, .tmp 17]) rfl ?_); at_builtin; refine Kd.R_append Kd.bool w.heap.size rfl (.tmp 14) (.tmp 17) 45 4 (.bool false) 1 rfl Try.underlying45 info4 rfl (by decide) (by omega) u3 x3_1 t358 [.bool t358] (fun _ => True) (fun _ => False) rfl rfl ?aP (fun _ hk => hk.elim) ?aF ?aO (Below.refl _ _) ?aS ?aL ?_; (case aP => exact rfl); (case aF => exact (fun _ _ => trivial)); (case aO => exact (rP HO_3.out)); (case aS => exact (keep_size (w := w) (g := g) (row := none) (bK HK))); (case aL => have := LMc8.out; omega); intro v362 w10 ho hb hg hat; rw [← Ny361.out] at ho; have n_ := aI (aM (IsS123.grown (IsS123.iI HI0) hg (IsS123.own_ne HI0.out HO_3.out (by decide)))) (aI (aM (below_weaken bB HL.out hb)) (aI (aM (KeepBut.trans (bK HK) (KeepBut.of_grown hg g) (Kd.R_base2 HO_3.out))) (aM (ho)))); clear HI0 HB HK HO_3; obtain ⟨HI0, HB, HK, HO363⟩ := n_; (try clear ho hb hg hat)))
     go_roundg k1
     case measure => have := HK1.out; omega
     case rel => exact ⟨(y361), (wrap64 (x5_1 + 1)), (t359), (t360), (by first | rfl | (simp; done) | (simp [*]; done) | (simp; exact (by intro l_; cases l_ <;> rfl : ∀ l_ : List UInt8, l_.isEmpty = !(l_ != [])) _)), H', ⟨by have := HK1.out; omega⟩, ⟨rP HO363.out⟩, ⟨IsS123.iI HI0⟩, ⟨bK HK⟩, ⟨bB⟩⟩
    ·rw [if_neg c8] at H
     exact absurd H (by simp)
   ·rw [if_neg c6] at H
    have c6b0 : decide (x5_1 < t355) = false := decide_eq_false c6
    clear c6
    simp only [Option.some.injEq, Prod.mk.injEq] at H
    obtain ⟨rfl, rfl, rfl⟩ := H
    go_wp2
    go_ret
    exact ⟨_, eW, by (with_reducible repeat (first | apply Kd.R_alloc | apply Kd.R_drewN | apply Kd.R_drew)); exact HO_3.out, IsS123.iI HI0, bB, bK HK⟩

end Go.Proofs.Ytgmpdkefegofhaa.PFnFlushed
