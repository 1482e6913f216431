-- Written by xprint.py, a program of this session over the kit's print. Not trusted: Lean checks it.
import Derived.Test.YtgmpdkefegofhaaPFnRecoveredx0
import Derived.Test.YtgmpdkefegofhaaPFnRecoveredx2
import Derived.Test.YtgmpdkefegofhaaPFnRecoveredx3
import Derived.Test.YtgmpdkefegofhaaPFnRecoveredx10
import Derived.Test.YtgmpdkefegofhaaPFnRecoveredx11
namespace Go.Proofs.Ytgmpdkefegofhaa.PFnRecovered
open Go.RowKit Go.Proofs.YtgmpdkefegofhaaW.PrintWords Go.Proofs.YtgmpdkefegofhaaW.PrintLast Go.Proofs.YtgmpdkefegofhaaW.PrintMore
attribute [local go_sem] max2_int min2_int max_two min_two max_three min_three max_four min_four   -- for this text's walks alone
set_option linter.unusedVariables false
set_option linter.unusedSimpArgs false

/-! ### spec_l3Draw: function 89 -/
def spec_l3Draw.j0 : Nat → List Int → Int → Int → List ByteArray → List (S65) → Option (List ByteArray × (List (S65)) × Int × Int)
 | 0, _, _, _, _, _ => none
 | k + 1, x1000, x1001, x1002, x466000, x466001 => some (x466000, x466001, x1001, x1002)
def spec_l3Draw.f (k : Nat) (s0_0 : List Int) (s0_1 : Int) (s0_2 : Int) : Option (List ByteArray × (List (S65)) × Int × Int) := (spec_l3Right.f k s0_0 s0_1 s0_2).bind fun bt457 => ((spec_l1PickInt.f s0_0 bt457.2.2.1 bt457.2.2.2 (([90, 91] : List Int))).bind fun bt469 => (if 0 ≤ bt469.1 then (if (bt469.1 : Int).toNat ≤ 281474976710656 then ((some (List.replicate (bt469.1 : Int).toNat 0 : List Int)).bind fun y472 => ((spec_l1Below.f s0_0 bt469.2.1 bt469.2.2 12).bind fun bt475 => (if bt475.1 = 0 then (if 0 < (bt457.1.length : Int) then (spec_l3Draw.j0 k s0_0 bt475.2.1 bt475.2.2 (bt457.1.set (0 : Int).toNat (strOfNums y472)) bt457.2.1) else (none)) else (if bt475.1 = 1 then ((spec_l1PickInt.f s0_0 bt475.2.1 bt475.2.2 (([(-1), (bt457.1.length : Int), 9223372036854775807] : List Int))).bind fun bt482 => (if bt457.2.1.length < 5864062014805 then (spec_l3Draw.j0 k s0_0 bt482.2.1 bt482.2.2 bt457.1 (bt457.2.1 ++ [(⟨bt482.1, (⟨#[]⟩ : ByteArray)⟩ : S65)])) else (none))) else (if bt475.1 = 2 then (if bt457.2.1.length < 5864062014805 then (spec_l3Draw.j0 k s0_0 bt475.2.1 bt475.2.2 bt457.1 (bt457.2.1 ++ [(⟨0, strOfNums y472⟩ : S65)])) else (none)) else (if bt475.1 = 3 then ((spec_l1PickInt.f s0_0 bt475.2.1 bt475.2.2 (([120, 121] : List Int))).bind fun bt494 => (if 0 ≤ bt494.1 then (if (bt494.1 : Int).toNat ≤ 17592186044416 then (spec_l3Draw.j0 k s0_0 bt494.2.1 bt494.2.2 (List.replicate (bt494.1 : Int).toNat (⟨#[]⟩ : ByteArray)) bt457.2.1) else (none)) else (none))) else (if bt475.1 = 4 then ((spec_l1PickInt.f s0_0 bt475.2.1 bt475.2.2 (([399, 400, 401] : List Int))).bind fun bt503 => (if 0 ≤ bt503.1 then (if (bt503.1 : Int).toNat ≤ 11728124029610 then (spec_l3Draw.j0 k s0_0 bt503.2.1 bt503.2.2 bt457.1 (List.replicate (bt503.1 : Int).toNat z65)) else (none)) else (none))) else (spec_l3Draw.j0 k s0_0 bt475.2.1 bt475.2.2 bt457.1 bt457.2.1)))))))) else (none)) else (none)))
theorem spec_l3Draw.mono_l : ∀ k, (∀ y0 y1 y2 y3 y4, LeO (spec_l3Draw.j0 k y0 y1 y2 y3 y4) (spec_l3Draw.j0 (k + 1) y0 y1 y2 y3 y4))
 | 0 => fun _ _ _ _ _ r h => by simp [spec_l3Draw.j0] at h
 | k + 1 => by
  have ih0 := spec_l3Draw.mono_l k
  ·intro y0 y1 y2 y3 y4
   unfold spec_l3Draw.j0
   have m0_ := @spec_l3Right.mono
   exact mM
theorem spec_l3Draw.mono : ∀ a0 a1 a2 k, LeO (spec_l3Draw.f k a0 a1 a2) (spec_l3Draw.f (k + 1) a0 a1 a2) := by
 intro a0 a1 a2 k
 have ih0 := spec_l3Draw.mono_l k
 unfold spec_l3Draw.f
 have m0_ := @spec_l3Right.mono
 exact mM
def spec_l3Draw.T7 : Bool × List (List Nat × List Nat) := (true, [([], []), ([0], [0]), ([], []), ([], []), ([3], [3]), ([4], [4]), ([5], [5]), ([2, 6], [2, 6]), ([7], [7]), ([8], [8]), ([1, 9, 7], [1, 9]), ([0, 1, 2, 3, 4, 5, 6, 7, 8, 9, 10], []), ([11, 10, 10, 0, 1, 2, 3, 4, 5, 6, 7, 8, 9, 10], [10, 11])])
def spec_l3Draw.B7 : List Nat := [0, 1, 0, 0, 8, 24, 56, 124, 252, 508, 1023, 2047, 4095]
theorem spec_l3Draw.tab7 : rtab .any (opsOf Try.f89 7) = spec_l3Draw.T7 := by kernel_rfl
theorem spec_l3Draw.bits7 : waitsOk spec_l3Draw.T7.2 spec_l3Draw.B7 = true := by kernel_rfl
set_option maxHeartbeats 8000000 in
set_option maxRecDepth 100000 in
theorem spec_l3Draw.calls (k : Nat) (g : Nat) (s0_0 : List Int) (s0_1 : Int) (s0_2 : Int) (r1 : List ByteArray) (r2 : List (S65)) (r3 : Int) (r4 : Int) (w0 w : World) (hI : IsS123 w0 w g s0_0 s0_1 s0_2) (hB : Below w0.heap.size w0 w) (h : spec_l3Draw.f k s0_0 s0_1 s0_2 = some (r1, r2, r3, r4)) :
  Calls Try.prog 89 #[.pointer (some ⟨g, 0, none⟩)] w fun e w' => ∃ v0_ v1_ : Value, e = .returned (.agg #[v0_, v1_]) ∧ Kd.R Kd.string 9 w' w.heap.size (fun _ => True) v0_ r1 ∧ Kd.R k65 65 w' w.heap.size (fun _ => True) v1_ r2 ∧ IsS123 w0 w' g s0_0 r3 r4 ∧ Below w0.heap.size w0 w' ∧ KeepBut w w' g none := by
 have hu30 := Try.underlying30
 have hu65 := Try.underlying65
 have HI0 := aM hI
 have GEg_ := aM (IsS123.ge hI)
 have HK := aM (KeepBut.refl w g none)
 have HL := aM hB.size
 clear hI
 have HW0 := aM hB.size
 have HB := aM hB
 clear hB
 unfold spec_l3Draw.f at h
 have H := h
 clear h
 replace H := Option.bind_eq_some_iff.mp H
 obtain ⟨⟨t457, t460, t463, t464⟩, A20, H⟩ := H
 try dsimp only at H
 have A2 := aM A20
 clear A20
 obtain ⟨y466, hy466⟩ : ∃ y_ : List Int, y_ = (([90, 91] : List Int)) := ⟨_, rfl⟩
 replace H : ((spec_l1PickInt.f s0_0 t463 t464 y466).bind fun bt469 => (if 0 ≤ bt469.1 then (if (bt469.1 : Int).toNat ≤ 281474976710656 then ((some (List.replicate (bt469.1 : Int).toNat 0 : List Int)).bind fun y472 => ((spec_l1Below.f s0_0 bt469.2.1 bt469.2.2 12).bind fun bt475 => (if bt475.1 = 0 then (if 0 < (t457.length : Int) then (spec_l3Draw.j0 k s0_0 bt475.2.1 bt475.2.2 (t457.set (0 : Int).toNat (strOfNums y472)) t460) else (none)) else (if bt475.1 = 1 then ((spec_l1PickInt.f s0_0 bt475.2.1 bt475.2.2 (([(-1), (t457.length : Int), 9223372036854775807] : List Int))).bind fun bt482 => (if t460.length < 5864062014805 then (spec_l3Draw.j0 k s0_0 bt482.2.1 bt482.2.2 t457 (t460 ++ [(⟨bt482.1, (⟨#[]⟩ : ByteArray)⟩ : S65)])) else (none))) else (if bt475.1 = 2 then (if t460.length < 5864062014805 then (spec_l3Draw.j0 k s0_0 bt475.2.1 bt475.2.2 t457 (t460 ++ [(⟨0, strOfNums y472⟩ : S65)])) else (none)) else (if bt475.1 = 3 then ((spec_l1PickInt.f s0_0 bt475.2.1 bt475.2.2 (([120, 121] : List Int))).bind fun bt494 => (if 0 ≤ bt494.1 then (if (bt494.1 : Int).toNat ≤ 17592186044416 then (spec_l3Draw.j0 k s0_0 bt494.2.1 bt494.2.2 (List.replicate (bt494.1 : Int).toNat (⟨#[]⟩ : ByteArray)) t460) else (none)) else (none))) else (if bt475.1 = 4 then ((spec_l1PickInt.f s0_0 bt475.2.1 bt475.2.2 (([399, 400, 401] : List Int))).bind fun bt503 => (if 0 ≤ bt503.1 then (if (bt503.1 : Int).toNat ≤ 11728124029610 then (spec_l3Draw.j0 k s0_0 bt503.2.1 bt503.2.2 t457 (List.replicate (bt503.1 : Int).toNat z65)) else (none)) else (none))) else (spec_l3Draw.j0 k s0_0 bt475.2.1 bt475.2.2 t457 t460)))))))) else (none)) else (none))) = some (r1, r2, r3, r4) := bQ hy466 H
 have Ny466 := aM hy466
 clear hy466
 replace H := Option.bind_eq_some_iff.mp H
 obtain ⟨⟨t469, t470, t471⟩, A30, H⟩ := H
 try dsimp only at H
 have A3 := aM A30
 clear A30
 by_cases c4 : 0 ≤ t469
 ·rw [if_pos c4] at H
  have c4b0 := eq_true c4
  have c4b1 : decide (0 ≤ t469) = true := decide_eq_true c4
  clear c4
  by_cases c5 : (t469 : Int).toNat ≤ 281474976710656
  ·rw [if_pos c5] at H
   have c5b0 := eq_true c5
   have c5b1 : decide ((t469 : Int).toNat ≤ 281474976710656) = true := decide_eq_true c5
   clear c5
   obtain ⟨y472, hy472⟩ : ∃ y_ : List Int, y_ = (List.replicate (t469 : Int).toNat 0) := ⟨_, rfl⟩
   replace H : ((spec_l1Below.f s0_0 t470 t471 12).bind fun bt475 => (if bt475.1 = 0 then (if 0 < (t457.length : Int) then (spec_l3Draw.j0 k s0_0 bt475.2.1 bt475.2.2 (t457.set (0 : Int).toNat (strOfNums y472)) t460) else (none)) else (if bt475.1 = 1 then ((spec_l1PickInt.f s0_0 bt475.2.1 bt475.2.2 (([(-1), (t457.length : Int), 9223372036854775807] : List Int))).bind fun bt482 => (if t460.length < 5864062014805 then (spec_l3Draw.j0 k s0_0 bt482.2.1 bt482.2.2 t457 (t460 ++ [(⟨bt482.1, (⟨#[]⟩ : ByteArray)⟩ : S65)])) else (none))) else (if bt475.1 = 2 then (if t460.length < 5864062014805 then (spec_l3Draw.j0 k s0_0 bt475.2.1 bt475.2.2 t457 (t460 ++ [(⟨0, strOfNums y472⟩ : S65)])) else (none)) else (if bt475.1 = 3 then ((spec_l1PickInt.f s0_0 bt475.2.1 bt475.2.2 (([120, 121] : List Int))).bind fun bt494 => (if 0 ≤ bt494.1 then (if (bt494.1 : Int).toNat ≤ 17592186044416 then (spec_l3Draw.j0 k s0_0 bt494.2.1 bt494.2.2 (List.replicate (bt494.1 : Int).toNat (⟨#[]⟩ : ByteArray)) t460) else (none)) else (none))) else (if bt475.1 = 4 then ((spec_l1PickInt.f s0_0 bt475.2.1 bt475.2.2 (([399, 400, 401] : List Int))).bind fun bt503 => (if 0 ≤ bt503.1 then (if (bt503.1 : Int).toNat ≤ 11728124029610 then (spec_l3Draw.j0 k s0_0 bt503.2.1 bt503.2.2 t457 (List.replicate (bt503.1 : Int).toNat z65)) else (none)) else (none))) else (spec_l3Draw.j0 k s0_0 bt475.2.1 bt475.2.2 t457 t460))))))) = some (r1, r2, r3, r4) := bQ hy472 H
   have Ny472 := aM hy472
   clear hy472
   replace H := Option.bind_eq_some_iff.mp H
   obtain ⟨⟨t475, t476, t477⟩, A60, H⟩ := H
   try dsimp only at H
   have A6 := aM A60
   clear A60
   have HC7 := aM H
   clear H
   go_enter Try.func89, Try.ntmps89
   go_upto_block 0 with (first | ((with_reducible refine gate_dst (N := 2) rfl ?_); refine bE 2 #[.slice none 0 0, .slice none 0 0] 30 ?_; intro gb456 hg w8 hbox hb; have n_ := aI (aM (IsS123.below (IsS123.iI HI0) hb)) (aI (aM (KeepBut.trans (bK HK) (KeepBut.of_below hb g none) (.inl rfl))) (aI (sB HB hb) (aI (aM hbox) (aI (aM ((by rw [hg]; exact (keep_size (w := w) (g := g) (row := none) (bK HK)) : w.heap.size ≤ gb456))) (aI (aM ((Nat.le_trans HW0.out (by rw [hg]; exact (keep_size (w := w) (g := g) (row := none) (bK HK)) : w.heap.size ≤ gb456) : w0.heap.size ≤ gb456))) (aI (aM ((by rw [hg]; exact Nat.ne_of_lt (IsS123.lt (show IsS123 w0 _ g s0_0 s0_1 s0_2 from IsS123.iI HI0)) : g ≠ gb456))) (aM ((by rw [hg]; exact Nat.ne_of_gt (IsS123.lt (show IsS123 w0 _ g s0_0 s0_1 s0_2 from IsS123.iI HI0)) : gb456 ≠ g))))))))); clear HI0 HK HB; obtain ⟨HI0, HK, HB, BK456, GW456, GE456, NB0_456, NB456_0⟩ := n_; (try clear hb hbox hg)) | ((with_reducible refine gate_callee (f := 119) rfl ?_); refine gL (some 6) Try.func119 #[.pointer (some ⟨g, 0, none⟩)] ?_; (with_reducible refine (spec_l3Right.calls k g s0_0 s0_1 s0_2 t457 t460 t463 t464 w0 _ ?side1 ?side2 A2.out).mono ?_); (case side1 => exact IsS123.iI HI0); (case side2 => exact bB); rintro e w9 ⟨v458, v461, rfl, ho0, ho1, hi, hb, hk⟩; refine ⟨_, rfl, ?_⟩; have n_ := aI (aM (KeepBut.blk hk (g' := gb456) (o := .cells #[.slice none 0 0, .slice none 0 0] 30 (0, 0)) (kP BK456) NB456_0.out (by simp))) (aI (aM (Kd.R_lower ho0 (keep_size (w := w) (g := g) (row := none) (bK HK)))) (aI (aM (Kd.R_lower ho1 (keep_size (w := w) (g := g) (row := none) (bK HK)))) (aI (aM (KeepBut.trans (bK HK) hk (.inl rfl))) (aI (aM (hb)) (aM (hi)))))); clear BK456 HK HB HI0; obtain ⟨BK456, HO459, HO462, HK, HB, HI0⟩ := n_; (try clear hb hk hi ho0 ho1)) | ((with_reducible refine gate_dst (N := 3) rfl ?_); refine bE 3 #[.slice none 0 0, .slice none 0 0] 30 ?_; intro gb465 hg w10 hbox hb; have n_ := aI (rB HO459 hb) (aI (rB HO462 hb) (aI (aM (IsS123.below (IsS123.iI HI0) hb)) (aI (kB BK456 hb) (aI (aM (KeepBut.trans (bK HK) (KeepBut.of_below hb g none) (.inl rfl))) (aI (sB HB hb) (aI (aM hbox) (aI (aM ((by rw [hg]; exact (keep_size (w := w) (g := g) (row := none) (bK HK)) : w.heap.size ≤ gb465))) (aI (aM ((Nat.le_trans HW0.out (by rw [hg]; exact (keep_size (w := w) (g := g) (row := none) (bK HK)) : w.heap.size ≤ gb465) : w0.heap.size ≤ gb465))) (aI (nL BK456 hg) (aI (nG BK456 hg) (aI (aM ((by rw [hg]; exact Nat.ne_of_lt (IsS123.lt (show IsS123 w0 _ g s0_0 t463 t464 from IsS123.iI HI0)) : g ≠ gb465))) (aM ((by rw [hg]; exact Nat.ne_of_gt (IsS123.lt (show IsS123 w0 _ g s0_0 t463 t464 from IsS123.iI HI0)) : gb465 ≠ g)))))))))))))); clear HO459 HO462 HI0 BK456 HK HB; obtain ⟨HO459, HO462, HI0, BK456, HK, HB, BK465, GW465, GE465, NB456_465, NB465_456, NB0_465, NB465_0⟩ := n_; (try clear hb hbox hg); obtain ⟨Ao11, co11, eo11⟩ := Kd.R_slice HO459.out; subst eo11; have hnb12 := NB465_456.out; have hnc12 := NB456_465.out; have hnb13 := NB465_0.out; have hnc13 := NB0_465.out; have hcz14_0 := cZ0 BK465; have hcz14_1 := cZ1 BK465; have hfz14_0 := fZ BK465 0; have hfz14_1 := fZ BK465 1; obtain ⟨Ao15, co15, eo15⟩ := Kd.R_slice HO462.out; subst eo15) | ((with_reducible refine gate_dst (N := 8) rfl ?_); refine Kd.R_lit (Kd.int .i64) _ 3 ?hg (N := 8) ?hd (xs := ([90, 91] : List Int)) (inner := [.int .i64 90, .int .i64 91]) (ok := fun _ => True) (okp := fun _ => True) ?hr ?hp (fun _ hk => hk) trivial (Below.refl _ _) (Nat.le_refl _) (by simp) ?_; (case hd => rfl); (case hg => rfl); (case hr => first | (go_simp; done) | (go_simp; rfl)); (case hp => exact (Reps.one (show Kd.M (Kd.int .i64) _ _ _ 90 [.int .i64 90] from rfl) (Reps.one (show Kd.M (Kd.int .i64) _ _ _ 91 [.int .i64 91] from rfl) (Reps.none _ _)))); intro v467 w16 ho17 hb hg_ hnew_; clear hg_ hnew_; (first | rw [← Ny466.out] at ho17 | (simp only [Int.reduceToNat] at ho17; rw [← Ny466.out] at ho17)); have n_ := aI (aM (Kd.R_below (rP (Kd.R_mono (Kd.R_far (p := ⟨gb465, 1, none⟩) (Kd.R_far (p := ⟨gb465, 0, none⟩) (Kd.R_types HO459.out BK465.out (by decide)) (fun _ hk => hk.2) (.slice Ao11 t457.length co11)) (fun _ hk => hk.2) (.slice Ao15 t460.length co15)) (fun _ h_ => h_.1))) hb)) (aI (aM (Kd.R_below (rP (Kd.R_mono (Kd.R_far (p := ⟨gb465, 1, none⟩) (Kd.R_far (p := ⟨gb465, 0, none⟩) (Kd.R_types HO462.out BK465.out (by decide)) (fun _ hk => hk.2) (.slice Ao11 t457.length co11)) (fun _ hk => hk.2) (.slice Ao15 t460.length co15)) (fun _ h_ => h_.1))) hb)) (aI (aM (Kd.R_lower ho17 (keep_size (w := w) (g := g) (row := none) (bK HK)))) (aI (aM (IsS123.below (show IsS123 w0 ((w10.setCell ⟨gb465, 0, none⟩ (.slice Ao11 t457.length co11)).setCell ⟨gb465, 1, none⟩ (.slice Ao15 t460.length co15)) g s0_0 t463 t464 from IsS123.iI HI0) hb)) (aI (kB BK456 hb) (aI (aM (blk_below (g := gb465) (o := .cells #[.slice Ao11 t457.length co11, .slice Ao15 t460.length co15] 30 (0, 0)) (by (with_reducible repeat (first | apply bN | apply bD | apply bA)); refine blk_put (cs := #[.slice Ao11 t457.length co11, .slice none 0 0]) ?_ 1 _ rfl; (with_reducible repeat (first | apply bN | apply bD | apply bA)); refine blk_put (cs := #[.slice none 0 0, .slice none 0 0]) ?_ 0 _ rfl; (with_reducible repeat (first | apply bN | apply bD | apply bA)); exact BK465.out) hb)) (aI (aM (KeepBut.trans (bK HK) (KeepBut.of_below hb g none) (.inl rfl))) (sB HB hb))))))); clear HO459 HO462 HI0 BK456 BK465 HK HB; obtain ⟨HO459, HO462, HO468, HI0, BK456, BK465, HK, HB⟩ := n_; (try clear hb ho17); obtain ⟨Ao18, co18, eo18⟩ := Kd.R_slice HO468.out; subst eo18) | ((with_reducible refine gate_callee (f := 98) rfl ?_); refine gL (some 9) Try.func98 #[.pointer (some ⟨g, 0, none⟩), .slice Ao18 y466.length co18] ?_; (with_reducible refine (spec_l1PickInt.calls g s0_0 t463 t464 _ _ y466 t469 t470 t471 w0 _ ?side1 ?side2 ?side3 ?side4 ?side5 A3.out).mono ?_); (case side1 => exact IsS123.iI HI0); (case side2 => exact bB); (case side3 => exact cR HO468); (case side4 => exact (Kd.R_reads' HO468.out).2.1); (case side5 => exact far_slice (IsS123.own_ne HI0.out HO468.out (by decide))); rintro e w19 ⟨rfl, hi, hb, hk⟩; refine ⟨_, rfl, ?_⟩; have n_ := aI (aM (KeepBut.blk hk (g' := gb456) (o := .cells #[.slice none 0 0, .slice none 0 0] 30 (0, 0)) (kP BK456) NB456_0.out (by simp))) (aI (aM (Kd.R_mono (Kd.R_keep (IsS123.apart (show IsS123 w0 _ g s0_0 t463 t464 from IsS123.iI HI0) (rP HO459.out) (by decide)) hk (fun _ h => h.2)) (fun _ h => h.1))) (aI (aM (Kd.R_mono (Kd.R_keep (IsS123.apart (show IsS123 w0 _ g s0_0 t463 t464 from IsS123.iI HI0) (rP HO462.out) (by decide)) hk (fun _ h => h.2)) (fun _ h => h.1))) (aI (aM (KeepBut.blk hk (g' := gb465) (o := .cells #[.slice Ao11 t457.length co11, .slice Ao15 t460.length co15] 30 (0, 0)) (kP BK465) NB465_0.out (by simp))) (aI (aM (Kd.R_mono (Kd.R_keep (IsS123.apart (show IsS123 w0 _ g s0_0 t463 t464 from IsS123.iI HI0) (rP HO468.out) (by decide)) hk (fun _ h => h.2)) (fun _ h => h.1))) (aI (aM (KeepBut.trans (bK HK) hk (.inl rfl))) (aI (aM (hb)) (aM (hi)))))))); clear BK456 HO459 HO462 BK465 HO468 HK HB HI0; obtain ⟨BK456, HO459, HO462, BK465, HO468, HK, HB, HI0⟩ := n_; (try clear hb hk hi)) | ((with_reducible refine gate_dst (N := 10) rfl ?_); refine Kd.R_make (Kd.int .u8) _ 5 rfl (N := 10) rfl 60 _ _ rfl t469 rfl rfl Try.underlying60 (.int .u8 0) 1 info5 rfl (by decide) (by omega) 0 (ok := fun _ => True) (okp := fun _ => True) rfl (fun _ hk => hk) trivial (dT) (Nat.le_trans (Nat.mul_le_mul_right _ (dT : t469.toNat ≤ 281474976710656)) (by omega)) (Below.refl _ _) (Nat.le_refl _) ?_; intro v473 w20 ho21 hb hg_ hnew_; clear hg_ hnew_; (first | rw [← Ny472.out] at ho21 | (simp only [Int.reduceToNat] at ho21; rw [← Ny472.out] at ho21)); have n_ := aI (rB HO459 hb) (aI (rB HO462 hb) (aI (rB HO468 hb) (aI (aM (Kd.R_lower ho21 (keep_size (w := w) (g := g) (row := none) (bK HK)))) (aI (aM (IsS123.below (IsS123.iI HI0) hb)) (aI (kB BK456 hb) (aI (kB BK465 hb) (aI (aM (KeepBut.trans (bK HK) (KeepBut.of_below hb g none) (.inl rfl))) (sB HB hb)))))))); clear HO459 HO462 HO468 HI0 BK456 BK465 HK HB; obtain ⟨HO459, HO462, HO468, HO474, HI0, BK456, BK465, HK, HB⟩ := n_; (try clear hb ho21); have hcv22 := own_string (P := Try.prog) Try.underlying60 Try.underlying5 Try.underlying9 (Kd.own_of_R HO474.out)) | ((with_reducible refine gate_callee (f := 95) rfl ?_); refine gL (some 13) Try.func95 #[.pointer (some ⟨g, 0, none⟩), .int .i64 12] ?_; (with_reducible refine (spec_l1Below.calls g s0_0 t470 t471 12 t475 t476 t477 w0 _ ?side1 ?side2 A6.out).mono ?_); (case side1 => exact IsS123.iI HI0); (case side2 => exact bB); rintro e w23 ⟨rfl, hi, hb, hk⟩; refine ⟨_, rfl, ?_⟩; have n_ := aI (aM (KeepBut.blk hk (g' := gb456) (o := .cells #[.slice none 0 0, .slice none 0 0] 30 (0, 0)) (kP BK456) NB456_0.out (by simp))) (aI (aM (Kd.R_mono (Kd.R_keep (IsS123.apart (show IsS123 w0 _ g s0_0 t470 t471 from IsS123.iI HI0) (rP HO459.out) (by decide)) hk (fun _ h => h.2)) (fun _ h => h.1))) (aI (aM (Kd.R_mono (Kd.R_keep (IsS123.apart (show IsS123 w0 _ g s0_0 t470 t471 from IsS123.iI HI0) (rP HO462.out) (by decide)) hk (fun _ h => h.2)) (fun _ h => h.1))) (aI (aM (KeepBut.blk hk (g' := gb465) (o := .cells #[.slice Ao11 t457.length co11, .slice Ao15 t460.length co15] 30 (0, 0)) (kP BK465) NB465_0.out (by simp))) (aI (aM (Kd.R_mono (Kd.R_keep (IsS123.apart (show IsS123 w0 _ g s0_0 t470 t471 from IsS123.iI HI0) (rP HO468.out) (by decide)) hk (fun _ h => h.2)) (fun _ h => h.1))) (aI (aM (Kd.R_mono (Kd.R_keep (IsS123.apart (show IsS123 w0 _ g s0_0 t470 t471 from IsS123.iI HI0) (rP HO474.out) (by decide)) hk (fun _ h => h.2)) (fun _ h => h.1))) (aI (aM (KeepBut.trans (bK HK) hk (.inl rfl))) (aI (aM (hb)) (aM (hi))))))))); clear BK456 HO459 HO462 BK465 HO468 HO474 HK HB HI0; obtain ⟨BK456, HO459, HO462, BK465, HO468, HO474, HK, HB, HI0⟩ := n_; (try clear hb hk hi)))
   (try simp only [Act.put, List.setIfInBounds_toArray, List.set_cons_zero, List.set_cons_succ])
   go_cut [] (fun wc => ∃ (kq : Nat) (x1001_6 : Int) (x1002_6 : Int) (x466000_6 : List ByteArray) (x466001_6 : List (S65)) (u466000 : Value) (u466001 : Value), Aside0 (spec_l3Draw.j0 kq s0_0 x1001_6 x1002_6 x466000_6 x466001_6 = some (r1, r2, r3, r4)) ∧ Aside0 (kq ≤ k) ∧ Aside0 (Kd.R Kd.string 9 wc w.heap.size (fun _ => True) u466000 x466000_6) ∧ Aside0 (Kd.R k65 65 wc w.heap.size (fun _ => True) u466001 x466001_6) ∧ Aside0 (wc.heap[gb456]? = some (.cells #[(.slice none 0 0), (.slice none 0 0)] 30 (0, 0))) ∧ Aside0 (wc.heap[gb465]? = some (.cells #[u466000, u466001] 30 (0, 0))) ∧ Aside0 (IsS123 w0 wc g s0_0 x1001_6 x1002_6) ∧ Aside0 (KeepBut w wc g none) ∧ Aside0 (Below w0.heap.size w0 wc))
   case first =>
    have H := HC7.out
    clear HC7
    by_cases c24 : t475 = 0
    ·rw [if_pos c24] at H
     have c24b0 : (t475 == 0) = true := beq_iff_eq.mpr c24
     have c24b1 : (t475 != 0) = false := bne_eq_false_iff_eq.mpr c24
     clear c24
     (first | rw [c24b0] | (simp only [i64_w, i32_w]; rw [c24b0]) | rw [c24b1] | rw [c24b2] | skip)
     by_cases c25 : 0 < (t457.length : Int)
     ·rw [if_pos c25] at H
      have c25b0 : decide (0 < (t457.length : Int)) = true := decide_eq_true c25
      have c25b1 : decide (0 < t457.length) = true := decide_eq_true (by omega)
      clear c25
      obtain ⟨y478, hy478⟩ : ∃ y_ : List ByteArray, y_ = (t457.set (0 : Int).toNat (strOfNums y472)) := ⟨_, rfl⟩
      replace H : (spec_l3Draw.j0 k s0_0 t476 t477 y478 t460) = some (r1, r2, r3, r4) := bQ hy478 H
      have Ny478 := aM hy478
      clear hy478
      have H' := aM H
      clear H
      have hnb27 := NB465_456.out
      have hnc27 := NB456_465.out
      have hnb28 := NB465_0.out
      have hnc28 := NB0_465.out
      have hcz29_0 := cZ0 BK465
      have hcz29_1 := cZ1 BK465
      have hfz29_0 := fZ BK465 0
      have hfz29_1 := fZ BK465 1
      have p26 : 0 ≤ (0 : Int) := (by omega)
      have q26 : (0 : Int) < ((t457.length : Int) : Int) := dT
      have qi26 : (0 < t457.length) = True := eq_true (by omega)
      obtain ⟨go26, co26, eo26, gb26, gl26, cl26, HG26⟩ := Kd.R_form HO459.out (by omega)
      (first | cases eo26 | (injection eo26 with ea_ en_ ec_; (first | subst ea_ | (injection ea_ with ea_; subst ea_)); subst ec_; clear en_))
      have GB26 := aM gb26
      have GG26 := aM HG26
      clear gb26 gl26 HG26
      obtain ⟨hx26_0, hf26_0⟩ := Kd.R_celln (⟨#[]⟩ : ByteArray) HO459.out (0 : Int) p26 q26
      (try rw [show ((0 : Int)).toNat = 0 from rfl] at hx26_0)
      (try simp only [Nat.reduceMul, Nat.zero_mul, Nat.zero_add, Nat.reduceAdd] at hx26_0)
      (try rw [show ((0 : Int)).toNat = 0 from rfl] at hf26_0)
      (try simp only [Nat.reduceMul, Nat.zero_mul, Nat.zero_add, Nat.reduceAdd] at hf26_0)
      replace p26 := eq_true p26
      replace q26 := eq_true q26
      have HP30 := Kd.R_putg HO459.out (0 : Int) (strOfNums y472)
      go_wp2_with (first | ((with_reducible refine gate_store (t := 9) (p := 19) rfl ?_); refine store_event (t := 9) (p := 19) (v := ?vo_w31) (w1 := (w23.setCell ⟨go26, (0 : Int).toNat, none⟩ (.string (strOfNums y472)))) ?hg ?ho ?hn ?hr ?_; (case ho => rfl); (case hg => rfl); (case hn => rfl); (case hr => first | (go_simp; done) | (go_simp; rfl)); intro w31 hw; have hg : w23.grownBy w31 (some go26) := (by rw [hw]; exact HP30.2); have hp_ : Kd.R Kd.string 9 w31 w.heap.size (fun _ => True) (.slice (some ⟨go26, 0, none⟩) t457.length co11) y478 := (by rw [hw, Ny478.out]; exact HP30.1); clear HP30; have n_ := aI (aM (IsS123.grown (IsS123.iI HI0) hg (IsS123.own_ne HI0.out HO459.out (by decide)))) (aI (aM (blk_grown (g := gb456) (o := .cells #[.slice none 0 0, .slice none 0 0] 30 (0, 0)) (kP BK456) hg (Kd.R_ne HO459.out BK456.out (by decide)))) (aI (aM (hp_)) (aI (aM (Kd.R_over' (v := (.slice (some ⟨go26, 0, none⟩) t457.length co11)) (rP HO462.out) (Kd.R_typed HO459.out) (by decide) hg)) (aI (aM (blk_grown (g := gb465) (o := .cells #[.slice (some ⟨go26, 0, none⟩) t457.length co11, .slice Ao15 t460.length co15] 30 (0, 0)) (kP BK465) hg (Kd.R_ne HO459.out BK465.out (by decide)))) (aI (aM (Kd.R_over' (v := (.slice (some ⟨go26, 0, none⟩) t457.length co11)) (rP HO468.out) (Kd.R_typed HO459.out) (by decide) hg)) (aI (aM (Kd.R_over' (v := (.slice (some ⟨go26, 0, none⟩) t457.length co11)) (rP HO474.out) (Kd.R_typed HO459.out) (by decide) hg)) (aI (aM ((by rw [hw]; exact below_set (HB.out) (Nat.le_trans HL.out GB26.out) : Below w0.heap.size w0 w31))) (aM (KeepBut.trans (bK HK) (KeepBut.of_grown hg g) (Kd.R_base2 HO459.out)))))))))); clear HI0 BK456 HO459 HO462 BK465 HO468 HO474 HB HK; obtain ⟨HI0, BK456, HO459, HO462, BK465, HO468, HO474, HB, HK⟩ := n_; (try clear hw)))
      go_meet
      case rel => exact ⟨_, (t476), (t477), (y478), (t460), (.slice (some ⟨go26, 0, none⟩) t457.length co11), (.slice Ao15 t460.length co15), H', ⟨by first | omega | exact Nat.le_refl _⟩, ⟨rP HO459.out⟩, ⟨rP HO462.out⟩, ⟨kP BK456⟩, ⟨kP BK465⟩, ⟨IsS123.iI HI0⟩, ⟨bK HK⟩, ⟨bB⟩⟩
     rw [if_neg c25] at H
     exact absurd H (by simp)
    rw [if_neg c24] at H
    have c24b0 : (t475 == 0) = false := beq_eq_false_iff_ne.mpr c24
    have c24b1 : (t475 != 0) = true := bne_iff_ne.mpr c24
    (first | rw [c24b0] | (simp only [i64_w, i32_w]; rw [c24b0]) | rw [c24b1] | rw [c24b2] | skip)
    by_cases c32 : t475 = 1
    ·rw [if_pos c32] at H
     have c32b0 : (t475 == 1) = true := beq_iff_eq.mpr c32
     have c32b1 : (t475 != 1) = false := bne_eq_false_iff_eq.mpr c32
     clear c32
     obtain ⟨y479, hy479⟩ : ∃ y_ : List Int, y_ = (([(-1), (t457.length : Int), 9223372036854775807] : List Int)) := ⟨_, rfl⟩
     replace H : ((spec_l1PickInt.f s0_0 t476 t477 y479).bind fun bt482 => (if t460.length < 5864062014805 then (spec_l3Draw.j0 k s0_0 bt482.2.1 bt482.2.2 t457 (t460 ++ [(⟨bt482.1, (⟨#[]⟩ : ByteArray)⟩ : S65)])) else (none))) = some (r1, r2, r3, r4) := bQ hy479 H
     have Ny479 := aM hy479
     clear hy479
     replace H := Option.bind_eq_some_iff.mp H
     obtain ⟨⟨t482, t483, t484⟩, A330, H⟩ := H
     try dsimp only at H
     have A33 := aM A330
     clear A330
     by_cases c34 : t460.length < 5864062014805
     ·rw [if_pos c34] at H
      have LMc34 := aM c34
      clear c34
      obtain ⟨y485, hy485⟩ : ∃ y_ : List (S65), y_ = (t460 ++ [(⟨t482, (⟨#[]⟩ : ByteArray)⟩ : S65)]) := ⟨_, rfl⟩
      replace H : (spec_l3Draw.j0 k s0_0 t483 t484 t457 y485) = some (r1, r2, r3, r4) := bQ hy485 H
      have Ny485 := aM hy485
      clear hy485
      have H' := aM H
      clear H
      try go_wp2
      have n_ := aI (aM (Kd.R_drew HO459.out)) (aI (aM (Kd.R_drew HO462.out)) (aI (aM (Kd.R_drew HO468.out)) (aI (aM (Kd.R_drew HO474.out)) (aI (aM (blk_drew BK456.out)) (aI (aM (blk_drew BK465.out)) (aI (aM (IsS123.drew HI0.out)) (aI (aM (keep_drew HK.out)) (aM (below_drew1 HB.out)))))))))
      clear HO459 HO462 HO468 HO474 BK456 BK465 HI0 HK HB
      obtain ⟨HO459, HO462, HO468, HO474, BK456, BK465, HI0, HK, HB⟩ := n_
      refine start_ (n := 13) (S := fun w' => w'.cell? ⟨gb465, 0, none⟩ = some (.slice Ao11 t457.length co11) ∧ w'.cell? ⟨gb465, 1, none⟩ = some (.slice Ao15 t460.length co15)) (ds := [12]) #[tF, tF, tF, tF, tF, tF, tF, tF, tF, tF, tF, tF, tF] (by kernel_rfl) rfl rfl ⟨(blk_cell BK465.out 0).trans rfl, (blk_cell BK465.out 1).trans rfl⟩ (fun hHeld => ?_); refine with_tabW spec_l3Draw.tab7 spec_l3Draw.bits7 (fun HT_ HW_ => ?_)
      generalize w23.drew = w35 at HO459 HO462 HO468 HO474 BK456 BK465 HI0 HK HB hHeld ⊢
      refine pY 0 22 #[tT, tF, tF, tF, tF, tF, tF, tF, tF, tF, tF, tF, tF] ?_
      refine pY 2 24 #[tT, tF, tT, tF, tF, tF, tF, tF, tF, tF, tF, tF, tF] ?_
      refine pY 3 25 #[tT, tF, tT, tT, tF, tF, tF, tF, tF, tF, tF, tF, tF] ?_
      refine take_ (i := 1) (N := some 23) (v := ?_) (a' := ?_) #[tT, tT, tT, tT, tF, tF, tF, tF, tF, tF, tF, tF, tF] rfl rfl (take_ofW HT_.out HW_.out (by kernel_rfl)) (fun _ _ _ h => h) (Or.inl ⟨by rfl, ?_⟩) hHeld ?_ ?_
      rotate_left
      ·rintro w' ⟨s0, s1⟩
       go_simp
       with_reducible rfl
      rotate_left
      ·simp only [Act.put, List.setIfInBounds_toArray, List.set_cons_zero, List.set_cons_succ, i64_w, i32_w]
       rfl
      refine take_ (i := 4) (N := some 26) (v := ?_) (a' := ?_) #[tT, tT, tT, tT, tT, tF, tF, tF, tF, tF, tF, tF, tF] rfl rfl (take_ofW HT_.out HW_.out (by kernel_rfl)) (fun _ _ _ h => h) (Or.inl ⟨by rfl, ?_⟩) hHeld ?_ ?_
      rotate_left
      ·rintro w' ⟨s0, s1⟩
       go_simp
       with_reducible rfl
      rotate_left
      ·simp only [Act.put, List.setIfInBounds_toArray, List.set_cons_zero, List.set_cons_succ, i64_w, i32_w]
       rfl
      refine pY 5 27 #[tT, tT, tT, tT, tT, tT, tF, tF, tF, tF, tF, tF, tF] ?_
      refine one_ (i := 6) (N := some 28) #[tT, tT, tT, tT, tT, tT, tT, tF, tF, tF, tF, tF, tF] rfl rfl (one_of HT_.out (by kernel_rfl)) (by decide) (fun K hK => ?_)
      refine Kd.R_lit_step (Kd.int .i64) _ 3 ?hg (N := 28) ?hd (xs := ([(-1), (t457.length : Int), 9223372036854775807] : List Int)) (inner := [.int .i64 (-1), .int .i64 (t457.length : Int), .int .i64 9223372036854775807]) (ok := fun _ => True) (okp := fun _ => True) ?hr ?hp (fun _ hk => hk) trivial (Below.refl _ _) (Nat.le_refl _) (by simp) ?_; (case hd => rfl); (case hg => rfl); (case hr => first | (go_simp; done) | (go_simp; rfl)); (case hp => exact (Reps.one (show Kd.M (Kd.int .i64) _ _ _ (-1) [.int .i64 (-1)] from rfl) (Reps.one (show Kd.M (Kd.int .i64) _ _ _ (t457.length : Int) [.int .i64 (t457.length : Int)] from rfl) (Reps.one (show Kd.M (Kd.int .i64) _ _ _ 9223372036854775807 [.int .i64 9223372036854775807] from rfl) (Reps.none _ _)))))
      intro v480 w36 ho37 hb hg_ hnew_
      clear hg_ hnew_
      (first | rw [← Ny479.out] at ho37 | (simp only [Int.reduceToNat] at ho37; rw [← Ny479.out] at ho37))
      have n_ := aI (rB HO459 hb) (aI (rB HO462 hb) (aI (eR HO468 ho37 hb) (aI (rB HO474 hb) (aI (aM (Kd.R_lower (Kd.R_new' ho37 (rL HO468)) (keep_size (w := w) (g := g) (row := none) (bK HK)))) (aI (aM (IsS123.below (IsS123.iI HI0) hb)) (aI (kB BK456 hb) (aI (kB BK465 hb) (aI (aM (KeepBut.trans (bK HK) (KeepBut.of_below hb g none) (.inl rfl))) (sB HB hb)))))))))
      clear HO459 HO462 HO468 HO474 HI0 BK456 BK465 HK HB
      obtain ⟨HO459, HO462, HO468, HO474, HO481, HI0, BK456, BK465, HK, HB⟩ := n_
      clear hb ho37
      obtain ⟨Ao38, co38, eo38⟩ := Kd.R_slice HO481.out
      (first | subst eo38 | (injection eo38 with f1_ f2_ f3_; have f4_ := f1_.symm; have f5_ := f3_.symm; clear f1_ f2_ f3_; subst f4_; subst f5_))
      refine hK.out _ _ ⟨(blk_cell BK465.out 0).trans rfl, (blk_cell BK465.out 1).trans rfl⟩ (fun hHeld => ?_)
      clear hK K
      refine norm_ (a' := ?_) ?_ ?_
      rotate_left
      ·show Act.put _ (some 28) _ = _
       simp only [Act.put, List.setIfInBounds_toArray, List.set_cons_zero, List.set_cons_succ, i64_w, i32_w]
       rfl
      refine one_ (i := 7) (N := some 29) #[tT, tT, tT, tT, tT, tT, tT, tT, tF, tF, tF, tF, tF] rfl rfl (one_of HT_.out (by kernel_rfl)) (by decide) (fun K hK => ?_)
      refine goes_ Try.func98 (by kernel_rfl) rfl #[.pointer (some ⟨g, 0, none⟩), .slice Ao38 y479.length co38] (by rfl) rfl rfl (by (try simp only [List.map_toArray, List.map_cons, List.map_nil]); first | done | rfl | (simp only [List.length_drop, List.length_take]; rfl)) ?_
      with_reducible refine (spec_l1PickInt.calls g s0_0 t476 t477 _ _ y479 t482 t483 t484 w0 _ ?side1 ?side2 ?side3 ?side4 ?side5 A33.out).mono ?_
      (case side1 => exact IsS123.iI HI0)
      (case side2 => exact bB)
      (case side3 => exact cR HO481)
      (case side4 => exact (Kd.R_reads' HO481.out).2.1)
      (case side5 => exact far_slice (IsS123.own_ne HI0.out HO481.out (by decide)))
      rintro e w39 ⟨rfl, hi, hb, hk⟩
      refine ⟨_, rfl, ?_⟩
      have n_ := aI (aM (KeepBut.blk hk (g' := gb456) (o := .cells #[.slice none 0 0, .slice none 0 0] 30 (0, 0)) (kP BK456) NB456_0.out (by simp))) (aI (aM (Kd.R_mono (Kd.R_keep (IsS123.apart (show IsS123 w0 _ g s0_0 t476 t477 from IsS123.iI HI0) (rP HO459.out) (by decide)) hk (fun _ h => h.2)) (fun _ h => h.1))) (aI (aM (Kd.R_mono (Kd.R_keep (IsS123.apart (show IsS123 w0 _ g s0_0 t476 t477 from IsS123.iI HI0) (rP HO462.out) (by decide)) hk (fun _ h => h.2)) (fun _ h => h.1))) (aI (aM (KeepBut.blk hk (g' := gb465) (o := .cells #[.slice Ao11 t457.length co11, .slice Ao15 t460.length co15] 30 (0, 0)) (kP BK465) NB465_0.out (by simp))) (aI (aM (Kd.R_mono (Kd.R_keep (IsS123.apart (show IsS123 w0 _ g s0_0 t476 t477 from IsS123.iI HI0) (rP HO468.out) (by decide)) hk (fun _ h => h.2)) (fun _ h => h.1))) (aI (aM (Kd.R_mono (Kd.R_keep (IsS123.apart (show IsS123 w0 _ g s0_0 t476 t477 from IsS123.iI HI0) (rP HO474.out) (by decide)) hk (fun _ h => h.2)) (fun _ h => h.1))) (aI (aM (Kd.R_mono (Kd.R_keep (IsS123.apart (show IsS123 w0 _ g s0_0 t476 t477 from IsS123.iI HI0) (rP HO481.out) (by decide)) hk (fun _ h => h.2)) (fun _ h => h.1))) (aI (aM (KeepBut.trans (bK HK) hk (.inl rfl))) (aI (aM (hb)) (aM (hi))))))))))
      clear BK456 HO459 HO462 BK465 HO468 HO474 HO481 HK HB HI0
      obtain ⟨BK456, HO459, HO462, BK465, HO468, HO474, HO481, HK, HB, HI0⟩ := n_
      (try clear hb)
      (try clear hb2)
      (try clear hk)
      (try clear hi)
      refine hK.out _ _ ⟨(blk_cell BK465.out 0).trans rfl, (blk_cell BK465.out 1).trans rfl⟩ (fun hHeld => ?_)
      clear hK K
      refine norm_ (a' := ?_) ?_ ?_
      rotate_left
      ·show Act.put _ (some 29) _ = _
       simp only [Act.put, List.setIfInBounds_toArray, List.set_cons_zero, List.set_cons_succ, i64_w, i32_w]
       rfl
      refine pY 8 30 #[tT, tT, tT, tT, tT, tT, tT, tT, tT, tF, tF, tF, tF] ?_
      refine one_ (i := 9) (N := some 31) #[tT, tT, tT, tT, tT, tT, tT, tT, tT, tT, tF, tF, tF] rfl rfl (one_of HT_.out (by kernel_rfl)) (by decide) (fun K hK => ?_)
      refine value_ (w1 := ?_) (v := ?_) (by rfl) rfl ?_ ?_
      rotate_left 2
      ·go_simp
       constructor
       ·rfl
       rfl
      refine hK.out _ _ ⟨(blk_cell (blk_alloc BK465.out _) 0).trans rfl, (blk_cell (blk_alloc BK465.out _) 1).trans rfl⟩ (fun hHeld => ?_)
      clear hK K
      refine norm_ (a' := ?_) ?_ ?_
      rotate_left
      ·show Act.put _ (some 31) _ = _
       simp only [Act.put, List.setIfInBounds_toArray, List.set_cons_zero, List.set_cons_succ, i64_w, i32_w]
       rfl
      refine one_ (i := 10) (N := some 32) #[tT, tT, tT, tT, tT, tT, tT, tT, tT, tT, tT, tF, tF] rfl rfl (one_of HT_.out (by kernel_rfl)) (by decide) (fun K hK => ?_)
      refine Kd.R_append_step k65 w.heap.size (by rfl) (.tmp 23) (.tmp 31) 28 65 (.agg #[(.int .i64 0), (.string ⟨#[]⟩)]) 24 rfl Try.underlying28 info65 rfl (by decide) (by omega) (.slice Ao15 t460.length co15) t460 (⟨t482, (⟨#[]⟩ : ByteArray)⟩ : S65) [.int .i64 t482, .string (⟨#[]⟩ : ByteArray)] (fun _ => True) (fun _ => False) rfl rfl ?aP (fun _ hk => hk.elim) ?aF ?aO (Below.refl _ _) ?aS ?aL ?_
      (case aP => exact k65_mkM _ _ _ (⟨t482, (⟨#[]⟩ : ByteArray)⟩ : S65))
      (case aF => exact (fun _ _ => trivial))
      (case aO => exact (rP HO462.out))
      (case aS => exact (keep_size (w := w) (g := g) (row := none) (bK HK)))
      (case aL => have := LMc34.out; omega)
      intro v486 w40 ho hb hg hat
      rw [← Ny485.out] at ho
      have n_ := aI (aM (IsS123.grown (IsS123.iI HI0) hg (IsS123.own_ne HI0.out HO462.out (by decide)))) (aI (aM (blk_grown (g := gb456) (o := .cells #[.slice none 0 0, .slice none 0 0] 30 (0, 0)) (kP BK456) hg (Kd.R_ne HO462.out BK456.out (by decide)))) (aI (aM (Kd.R_over' (rP HO459.out) (Kd.R_typed (rP HO462.out)) (by decide) hg)) (aI (aM (blk_grown (g := gb465) (o := .cells #[.slice Ao11 t457.length co11, .slice Ao15 t460.length co15] 30 (0, 0)) (kP BK465) hg (Kd.R_ne HO462.out BK465.out (by decide)))) (aI (aM (Kd.R_over' (rP HO468.out) (Kd.R_typed (rP HO462.out)) (by decide) hg)) (aI (aM (Kd.R_over' (rP HO474.out) (Kd.R_typed (rP HO462.out)) (by decide) hg)) (aI (aM (Kd.R_over' (rP HO481.out) (Kd.R_typed (rP HO462.out)) (by decide) hg)) (aI (aM (below_weaken bB HL.out hb)) (aI (aM (KeepBut.trans (bK HK) (KeepBut.of_grown hg g) (Kd.R_base2 HO462.out))) (aM (ho))))))))))
      clear HI0 BK456 HO459 BK465 HO468 HO474 HO481 HB HK HO462
      obtain ⟨HI0, BK456, HO459, BK465, HO468, HO474, HO481, HB, HK, HO487⟩ := n_
      clear ho hb hg hat
      obtain ⟨Ao41, co41, eo41⟩ := Kd.R_slice HO487.out
      (first | subst eo41 | (injection eo41 with f1_ f2_ f3_; have f4_ := f1_.symm; have f5_ := f3_.symm; clear f1_ f2_ f3_; subst f4_; subst f5_))
      refine hK.out _ _ ⟨(blk_cell BK465.out 0).trans rfl, (blk_cell BK465.out 1).trans rfl⟩ (fun hHeld => ?_)
      clear hK K
      refine norm_ (a' := ?_) ?_ ?_
      rotate_left
      ·show Act.put _ (some 32) _ = _
       simp only [Act.put, List.setIfInBounds_toArray, List.set_cons_zero, List.set_cons_succ, i64_w, i32_w]
       rfl
      refine pY 11 33 #[tT, tT, tT, tT, tT, tT, tT, tT, tT, tT, tT, tT, tF] ?_
      refine last_ (i := 12) (N := none) #[tT, tT, tT, tT, tT, tT, tT, tT, tT, tT, tT, tT, tT] rfl rfl (one_of HT_.out (by kernel_rfl)) (by decide) (fun K hK => ?_)
      have hs42 : w40.cell? ⟨gb465, 1, none⟩ = some (.slice Ao15 t460.length co15) := (blk_cell BK465.out 1).trans rfl
      have hfs42 := blk_frozen BK465.out 1
      have hns42_0 := NB456_465.out
      have hms42_0 := NB465_456.out
      refine skip_ (w1 := ?_) (by rfl) rfl ?_ ?_
      rotate_left
      ·go_simp
       rfl
      refine hK.out _ _ ?_
      clear hK K
      refine done_ (done_of HT_.out (by kernel_rfl)) ?_
      try go_wp2
      go_meet
      case rel => exact ⟨_, (t483), (t484), (t457), (y485), (.slice Ao11 t457.length co11), (.slice Ao41 y485.length co41), H', ⟨by first | omega | exact Nat.le_refl _⟩, ⟨rP (Kd.R_mono (Kd.R_far (p := ⟨gb465, 1, none⟩) (Kd.R_types HO459.out BK465.out (by decide)) (fun _ hk => hk.2) (.slice Ao41 y485.length co41)) (fun _ hk => trivial))⟩, ⟨rP (Kd.R_mono (Kd.R_far (p := ⟨gb465, 1, none⟩) (Kd.R_types HO487.out BK465.out (by decide)) (fun _ hk => hk.2) (.slice Ao41 y485.length co41)) (fun _ hk => trivial))⟩, ⟨kP BK456⟩, ⟨by (with_reducible repeat (first | apply bN | apply bD | apply bA)); refine blk_put (cs := #[.slice Ao11 t457.length co11, .slice Ao15 t460.length co15]) ?_ 1 _ rfl; (with_reducible repeat (first | apply bN | apply bD | apply bA)); exact BK465.out⟩, ⟨IsS123.iI HI0⟩, ⟨bK HK⟩, ⟨bB⟩⟩
     rw [if_neg c34] at H
     exact absurd H (by simp)
    rw [if_neg c32] at H
    have c32b0 : (t475 == 1) = false := beq_eq_false_iff_ne.mpr c32
    have c32b1 : (t475 != 1) = true := bne_iff_ne.mpr c32
    by_cases c43 : t475 = 2
    ·rw [if_pos c43] at H
     have c43b0 : (t475 == 2) = true := beq_iff_eq.mpr c43
     have c43b1 : (t475 != 2) = false := bne_eq_false_iff_eq.mpr c43
     clear c43
     by_cases c44 : t460.length < 5864062014805
     ·rw [if_pos c44] at H
      have LMc44 := aM c44
      clear c44
      obtain ⟨y488, hy488⟩ : ∃ y_ : List (S65), y_ = (t460 ++ [(⟨0, strOfNums y472⟩ : S65)]) := ⟨_, rfl⟩
      replace H : (spec_l3Draw.j0 k s0_0 t476 t477 t457 y488) = some (r1, r2, r3, r4) := bQ hy488 H
      have Ny488 := aM hy488
      clear hy488
      have H' := aM H
      clear H
      have hnb45 := NB465_456.out
      have hnc45 := NB456_465.out
      have hnb46 := NB465_0.out
      have hnc46 := NB0_465.out
      have hcz47_0 := cZ0 BK465
      have hcz47_1 := cZ1 BK465
      have hfz47_0 := fZ BK465 0
      have hfz47_1 := fZ BK465 1
      go_wp2_with (first | ((with_reducible refine gate_builtin (b := .append) (xs := #[.tmp 37, .tmp 40]) rfl ?_); at_builtin; refine Kd.R_append k65 w.heap.size rfl (.tmp 37) (.tmp 40) 28 65 (.agg #[(.int .i64 0), (.string ⟨#[]⟩)]) 24 rfl Try.underlying28 info65 rfl (by decide) (by omega) (.slice Ao15 t460.length co15) t460 (⟨0, strOfNums y472⟩ : S65) [.int .i64 0, .string (strOfNums y472)] (fun _ => True) (fun _ => False) rfl rfl ?aP (fun _ hk => hk.elim) ?aF ?aO (Below.refl _ _) ?aS ?aL ?_; (case aP => exact k65_mkM _ _ _ (⟨0, strOfNums y472⟩ : S65)); (case aF => exact (fun _ _ => trivial)); (case aO => exact (rP HO462.out)); (case aS => exact (keep_size (w := w) (g := g) (row := none) (bK HK))); (case aL => have := LMc44.out; omega); intro v489 w48 ho hb hg hat; rw [← Ny488.out] at ho; have n_ := aI (aM (IsS123.grown (IsS123.iI HI0) hg (IsS123.own_ne HI0.out HO462.out (by decide)))) (aI (aM (blk_grown (g := gb456) (o := .cells #[.slice none 0 0, .slice none 0 0] 30 (0, 0)) (kP BK456) hg (Kd.R_ne HO462.out BK456.out (by decide)))) (aI (aM (Kd.R_over' (rP HO459.out) (Kd.R_typed (rP HO462.out)) (by decide) hg)) (aI (aM (blk_grown (g := gb465) (o := .cells #[.slice Ao11 t457.length co11, .slice Ao15 t460.length co15] 30 (0, 0)) (kP BK465) hg (Kd.R_ne HO462.out BK465.out (by decide)))) (aI (aM (Kd.R_over' (rP HO468.out) (Kd.R_typed (rP HO462.out)) (by decide) hg)) (aI (aM (Kd.R_over' (rP HO474.out) (Kd.R_typed (rP HO462.out)) (by decide) hg)) (aI (aM (below_weaken bB HL.out hb)) (aI (aM (KeepBut.trans (bK HK) (KeepBut.of_grown hg g) (Kd.R_base2 HO462.out))) (aM (ho))))))))); clear HI0 BK456 HO459 BK465 HO468 HO474 HB HK HO462; obtain ⟨HI0, BK456, HO459, BK465, HO468, HO474, HB, HK, HO490⟩ := n_; (try clear ho hb hg hat); obtain ⟨Ao49, co49, eo49⟩ := Kd.R_slice HO490.out; subst eo49; have hcz50_0 := cZ0 BK465; have hcz50_1 := cZ1 BK465; have hfz50_0 := fZ BK465 0; have hfz50_1 := fZ BK465 1))
      go_meet
      case rel => exact ⟨_, (t476), (t477), (t457), (y488), (.slice Ao11 t457.length co11), (.slice Ao49 y488.length co49), H', ⟨by first | omega | exact Nat.le_refl _⟩, ⟨rP (Kd.R_mono (Kd.R_far (p := ⟨gb465, 1, none⟩) (Kd.R_types HO459.out BK465.out (by decide)) (fun _ hk => hk.2) (.slice Ao49 y488.length co49)) (fun _ hk => trivial))⟩, ⟨rP (Kd.R_mono (Kd.R_far (p := ⟨gb465, 1, none⟩) (Kd.R_types HO490.out BK465.out (by decide)) (fun _ hk => hk.2) (.slice Ao49 y488.length co49)) (fun _ hk => trivial))⟩, ⟨kP BK456⟩, ⟨by (with_reducible repeat (first | apply bN | apply bD | apply bA)); refine blk_put (cs := #[.slice Ao11 t457.length co11, .slice Ao15 t460.length co15]) ?_ 1 _ rfl; (with_reducible repeat (first | apply bN | apply bD | apply bA)); exact BK465.out⟩, ⟨IsS123.iI HI0⟩, ⟨bK HK⟩, ⟨bB⟩⟩
     rw [if_neg c44] at H
     exact absurd H (by simp)
    rw [if_neg c43] at H
    have c43b0 : (t475 == 2) = false := beq_eq_false_iff_ne.mpr c43
    have c43b1 : (t475 != 2) = true := bne_iff_ne.mpr c43
    by_cases c51 : t475 = 3
    ·rw [if_pos c51] at H
     have c51b0 : (t475 == 3) = true := beq_iff_eq.mpr c51
     have c51b1 : (t475 != 3) = false := bne_eq_false_iff_eq.mpr c51
     clear c51
     obtain ⟨y491, hy491⟩ : ∃ y_ : List Int, y_ = (([120, 121] : List Int)) := ⟨_, rfl⟩
     replace H : ((spec_l1PickInt.f s0_0 t476 t477 y491).bind fun bt494 => (if 0 ≤ bt494.1 then (if (bt494.1 : Int).toNat ≤ 17592186044416 then (spec_l3Draw.j0 k s0_0 bt494.2.1 bt494.2.2 (List.replicate (bt494.1 : Int).toNat (⟨#[]⟩ : ByteArray)) t460) else (none)) else (none))) = some (r1, r2, r3, r4) := bQ hy491 H
     have Ny491 := aM hy491
     clear hy491
     replace H := Option.bind_eq_some_iff.mp H
     obtain ⟨⟨t494, t495, t496⟩, A520, H⟩ := H
     try dsimp only at H
     have A52 := aM A520
     clear A520
     by_cases c53 : 0 ≤ t494
     ·rw [if_pos c53] at H
      have c53b0 := eq_true c53
      have c53b1 : decide (0 ≤ t494) = true := decide_eq_true c53
      clear c53
      by_cases c54 : (t494 : Int).toNat ≤ 17592186044416
      ·rw [if_pos c54] at H
       have c54b0 := eq_true c54
       have c54b1 : decide ((t494 : Int).toNat ≤ 17592186044416) = true := decide_eq_true c54
       clear c54
       obtain ⟨y497, hy497⟩ : ∃ y_ : List ByteArray, y_ = (List.replicate (t494 : Int).toNat (⟨#[]⟩ : ByteArray)) := ⟨_, rfl⟩
       replace H : (spec_l3Draw.j0 k s0_0 t495 t496 y497 t460) = some (r1, r2, r3, r4) := bQ hy497 H
       have Ny497 := aM hy497
       clear hy497
       have H' := aM H
       clear H
       go_wp2_with (first | ((with_reducible refine gate_dst (N := 46) rfl ?_); refine Kd.R_lit (Kd.int .i64) _ 3 ?hg (N := 46) ?hd (xs := ([120, 121] : List Int)) (inner := [.int .i64 120, .int .i64 121]) (ok := fun _ => True) (okp := fun _ => True) ?hr ?hp (fun _ hk => hk) trivial (Below.refl _ _) (Nat.le_refl _) (by simp) ?_; (case hd => rfl); (case hg => rfl); (case hr => first | (go_simp; done) | (go_simp; rfl)); (case hp => exact (Reps.one (show Kd.M (Kd.int .i64) _ _ _ 120 [.int .i64 120] from rfl) (Reps.one (show Kd.M (Kd.int .i64) _ _ _ 121 [.int .i64 121] from rfl) (Reps.none _ _)))); intro v492 w55 ho56 hb hg_ hnew_; clear hg_ hnew_; (first | rw [← Ny491.out] at ho56 | (simp only [Int.reduceToNat] at ho56; rw [← Ny491.out] at ho56)); have n_ := aI (rB HO459 hb) (aI (rB HO462 hb) (aI (eR HO468 ho56 hb) (aI (rB HO474 hb) (aI (aM (Kd.R_lower (Kd.R_new' ho56 (rL HO468)) (keep_size (w := w) (g := g) (row := none) (bK HK)))) (aI (aM (IsS123.below (IsS123.iI HI0) hb)) (aI (kB BK456 hb) (aI (kB BK465 hb) (aI (aM (KeepBut.trans (bK HK) (KeepBut.of_below hb g none) (.inl rfl))) (sB HB hb))))))))); clear HO459 HO462 HO468 HO474 HI0 BK456 BK465 HK HB; obtain ⟨HO459, HO462, HO468, HO474, HO493, HI0, BK456, BK465, HK, HB⟩ := n_; (try clear hb ho56); obtain ⟨Ao57, co57, eo57⟩ := Kd.R_slice HO493.out; subst eo57) | ((with_reducible refine gate_callee (f := 98) rfl ?_); refine gL (some 47) Try.func98 #[.pointer (some ⟨g, 0, none⟩), .slice Ao57 y491.length co57] ?_; (with_reducible refine (spec_l1PickInt.calls g s0_0 t476 t477 _ _ y491 t494 t495 t496 w0 _ ?side1 ?side2 ?side3 ?side4 ?side5 A52.out).mono ?_); (case side1 => exact IsS123.iI HI0); (case side2 => exact bB); (case side3 => exact cR HO493); (case side4 => exact (Kd.R_reads' HO493.out).2.1); (case side5 => exact far_slice (IsS123.own_ne HI0.out HO493.out (by decide))); rintro e w58 ⟨rfl, hi, hb, hk⟩; refine ⟨_, rfl, ?_⟩; have n_ := aI (aM (KeepBut.blk hk (g' := gb456) (o := .cells #[.slice none 0 0, .slice none 0 0] 30 (0, 0)) (kP BK456) NB456_0.out (by simp))) (aI (aM (Kd.R_mono (Kd.R_keep (IsS123.apart (show IsS123 w0 _ g s0_0 t476 t477 from IsS123.iI HI0) (rP HO459.out) (by decide)) hk (fun _ h => h.2)) (fun _ h => h.1))) (aI (aM (Kd.R_mono (Kd.R_keep (IsS123.apart (show IsS123 w0 _ g s0_0 t476 t477 from IsS123.iI HI0) (rP HO462.out) (by decide)) hk (fun _ h => h.2)) (fun _ h => h.1))) (aI (aM (KeepBut.blk hk (g' := gb465) (o := .cells #[.slice Ao11 t457.length co11, .slice Ao15 t460.length co15] 30 (0, 0)) (kP BK465) NB465_0.out (by simp))) (aI (aM (Kd.R_mono (Kd.R_keep (IsS123.apart (show IsS123 w0 _ g s0_0 t476 t477 from IsS123.iI HI0) (rP HO468.out) (by decide)) hk (fun _ h => h.2)) (fun _ h => h.1))) (aI (aM (Kd.R_mono (Kd.R_keep (IsS123.apart (show IsS123 w0 _ g s0_0 t476 t477 from IsS123.iI HI0) (rP HO474.out) (by decide)) hk (fun _ h => h.2)) (fun _ h => h.1))) (aI (aM (Kd.R_mono (Kd.R_keep (IsS123.apart (show IsS123 w0 _ g s0_0 t476 t477 from IsS123.iI HI0) (rP HO493.out) (by decide)) hk (fun _ h => h.2)) (fun _ h => h.1))) (aI (aM (KeepBut.trans (bK HK) hk (.inl rfl))) (aI (aM (hb)) (aM (hi)))))))))); clear BK456 HO459 HO462 BK465 HO468 HO474 HO493 HK HB HI0; obtain ⟨BK456, HO459, HO462, BK465, HO468, HO474, HO493, HK, HB, HI0⟩ := n_; (try clear hb hk hi)) | ((with_reducible refine gate_dst (N := 48) rfl ?_); refine Kd.R_make Kd.string _ 9 rfl (N := 48) rfl 22 _ _ rfl t494 rfl rfl Try.underlying22 (.string ⟨#[]⟩) 16 info9 rfl (by decide) (by omega) (⟨#[]⟩ : ByteArray) (ok := fun _ => True) (okp := fun _ => True) rfl (fun _ hk => hk) trivial (dT) (Nat.le_trans (Nat.mul_le_mul_right _ (dT : t494.toNat ≤ 17592186044416)) (by omega)) (Below.refl _ _) (Nat.le_refl _) ?_; intro v498 w59 ho60 hb hg_ hnew_; clear hg_ hnew_; (first | rw [← Ny497.out] at ho60 | (simp only [Int.reduceToNat] at ho60; rw [← Ny497.out] at ho60)); have n_ := aI (eR HO459 ho60 hb) (aI (rB HO462 hb) (aI (rB HO468 hb) (aI (rB HO474 hb) (aI (rB HO493 hb) (aI (aM (Kd.R_lower (Kd.R_new' ho60 (rL HO459)) (keep_size (w := w) (g := g) (row := none) (bK HK)))) (aI (aM (IsS123.below (IsS123.iI HI0) hb)) (aI (kB BK456 hb) (aI (kB BK465 hb) (aI (aM (KeepBut.trans (bK HK) (KeepBut.of_below hb g none) (.inl rfl))) (sB HB hb)))))))))); clear HO459 HO462 HO468 HO474 HO493 HI0 BK456 BK465 HK HB; obtain ⟨HO459, HO462, HO468, HO474, HO493, HO499, HI0, BK456, BK465, HK, HB⟩ := n_; (try clear hb ho60); obtain ⟨Ao61, co61, eo61⟩ := Kd.R_slice HO499.out; subst eo61; have hnb62 := NB465_456.out; have hnc62 := NB456_465.out; have hnb63 := NB465_0.out; have hnc63 := NB0_465.out; have hcz64_0 := cZ0 BK465; have hcz64_1 := cZ1 BK465; have hfz64_0 := fZ BK465 0; have hfz64_1 := fZ BK465 1))
       go_meet
       case rel => exact ⟨_, (t495), (t496), (y497), (t460), (.slice Ao61 y497.length co61), (.slice Ao15 t460.length co15), H', ⟨by first | omega | exact Nat.le_refl _⟩, ⟨rP (Kd.R_mono (Kd.R_far (p := ⟨gb465, 0, none⟩) (Kd.R_types HO499.out BK465.out (by decide)) (fun _ hk => hk.2) (.slice Ao61 y497.length co61)) (fun _ hk => trivial))⟩, ⟨rP (Kd.R_mono (Kd.R_far (p := ⟨gb465, 0, none⟩) (Kd.R_types HO462.out BK465.out (by decide)) (fun _ hk => hk.2) (.slice Ao61 y497.length co61)) (fun _ hk => trivial))⟩, ⟨kP BK456⟩, ⟨by (with_reducible repeat (first | apply bN | apply bD | apply bA)); refine blk_put (cs := #[.slice Ao11 t457.length co11, .slice Ao15 t460.length co15]) ?_ 0 _ rfl; (with_reducible repeat (first | apply bN | apply bD | apply bA)); exact BK465.out⟩, ⟨IsS123.iI HI0⟩, ⟨bK HK⟩, ⟨bB⟩⟩
      rw [if_neg c54] at H
      exact absurd H (by simp)
     rw [if_neg c53] at H
     exact absurd H (by simp)
    rw [if_neg c51] at H
    have c51b0 : (t475 == 3) = false := beq_eq_false_iff_ne.mpr c51
    have c51b1 : (t475 != 3) = true := bne_iff_ne.mpr c51
    by_cases c65 : t475 = 4
    ·rw [if_pos c65] at H
     have c65b0 : (t475 == 4) = true := beq_iff_eq.mpr c65
     have c65b1 : (t475 != 4) = false := bne_eq_false_iff_eq.mpr c65
     clear c65
     obtain ⟨y500, hy500⟩ : ∃ y_ : List Int, y_ = (([399, 400, 401] : List Int)) := ⟨_, rfl⟩
     replace H : ((spec_l1PickInt.f s0_0 t476 t477 y500).bind fun bt503 => (if 0 ≤ bt503.1 then (if (bt503.1 : Int).toNat ≤ 11728124029610 then (spec_l3Draw.j0 k s0_0 bt503.2.1 bt503.2.2 t457 (List.replicate (bt503.1 : Int).toNat z65)) else (none)) else (none))) = some (r1, r2, r3, r4) := bQ hy500 H
     have Ny500 := aM hy500
     clear hy500
     replace H := Option.bind_eq_some_iff.mp H
     obtain ⟨⟨t503, t504, t505⟩, A660, H⟩ := H
     try dsimp only at H
     have A66 := aM A660
     clear A660
     by_cases c67 : 0 ≤ t503
     ·rw [if_pos c67] at H
      have c67b0 := eq_true c67
      have c67b1 : decide (0 ≤ t503) = true := decide_eq_true c67
      clear c67
      by_cases c68 : (t503 : Int).toNat ≤ 11728124029610
      ·rw [if_pos c68] at H
       have c68b0 := eq_true c68
       have c68b1 : decide ((t503 : Int).toNat ≤ 11728124029610) = true := decide_eq_true c68
       clear c68
       obtain ⟨y506, hy506⟩ : ∃ y_ : List (S65), y_ = (List.replicate (t503 : Int).toNat z65) := ⟨_, rfl⟩
       replace H : (spec_l3Draw.j0 k s0_0 t504 t505 t457 y506) = some (r1, r2, r3, r4) := bQ hy506 H
       have Ny506 := aM hy506
       clear hy506
       have H' := aM H
       clear H
       go_wp2_with (first | ((with_reducible refine gate_dst (N := 53) rfl ?_); refine Kd.R_lit (Kd.int .i64) _ 3 ?hg (N := 53) ?hd (xs := ([399, 400, 401] : List Int)) (inner := [.int .i64 399, .int .i64 400, .int .i64 401]) (ok := fun _ => True) (okp := fun _ => True) ?hr ?hp (fun _ hk => hk) trivial (Below.refl _ _) (Nat.le_refl _) (by simp) ?_; (case hd => rfl); (case hg => rfl); (case hr => first | (go_simp; done) | (go_simp; rfl)); (case hp => exact (Reps.one (show Kd.M (Kd.int .i64) _ _ _ 399 [.int .i64 399] from rfl) (Reps.one (show Kd.M (Kd.int .i64) _ _ _ 400 [.int .i64 400] from rfl) (Reps.one (show Kd.M (Kd.int .i64) _ _ _ 401 [.int .i64 401] from rfl) (Reps.none _ _))))); intro v501 w69 ho70 hb hg_ hnew_; clear hg_ hnew_; (first | rw [← Ny500.out] at ho70 | (simp only [Int.reduceToNat] at ho70; rw [← Ny500.out] at ho70)); have n_ := aI (rB HO459 hb) (aI (rB HO462 hb) (aI (eR HO468 ho70 hb) (aI (rB HO474 hb) (aI (aM (Kd.R_lower (Kd.R_new' ho70 (rL HO468)) (keep_size (w := w) (g := g) (row := none) (bK HK)))) (aI (aM (IsS123.below (IsS123.iI HI0) hb)) (aI (kB BK456 hb) (aI (kB BK465 hb) (aI (aM (KeepBut.trans (bK HK) (KeepBut.of_below hb g none) (.inl rfl))) (sB HB hb))))))))); clear HO459 HO462 HO468 HO474 HI0 BK456 BK465 HK HB; obtain ⟨HO459, HO462, HO468, HO474, HO502, HI0, BK456, BK465, HK, HB⟩ := n_; (try clear hb ho70); obtain ⟨Ao71, co71, eo71⟩ := Kd.R_slice HO502.out; subst eo71) | ((with_reducible refine gate_callee (f := 98) rfl ?_); refine gL (some 54) Try.func98 #[.pointer (some ⟨g, 0, none⟩), .slice Ao71 y500.length co71] ?_; (with_reducible refine (spec_l1PickInt.calls g s0_0 t476 t477 _ _ y500 t503 t504 t505 w0 _ ?side1 ?side2 ?side3 ?side4 ?side5 A66.out).mono ?_); (case side1 => exact IsS123.iI HI0); (case side2 => exact bB); (case side3 => exact cR HO502); (case side4 => exact (Kd.R_reads' HO502.out).2.1); (case side5 => exact far_slice (IsS123.own_ne HI0.out HO502.out (by decide))); rintro e w72 ⟨rfl, hi, hb, hk⟩; refine ⟨_, rfl, ?_⟩; have n_ := aI (aM (KeepBut.blk hk (g' := gb456) (o := .cells #[.slice none 0 0, .slice none 0 0] 30 (0, 0)) (kP BK456) NB456_0.out (by simp))) (aI (aM (Kd.R_mono (Kd.R_keep (IsS123.apart (show IsS123 w0 _ g s0_0 t476 t477 from IsS123.iI HI0) (rP HO459.out) (by decide)) hk (fun _ h => h.2)) (fun _ h => h.1))) (aI (aM (Kd.R_mono (Kd.R_keep (IsS123.apart (show IsS123 w0 _ g s0_0 t476 t477 from IsS123.iI HI0) (rP HO462.out) (by decide)) hk (fun _ h => h.2)) (fun _ h => h.1))) (aI (aM (KeepBut.blk hk (g' := gb465) (o := .cells #[.slice Ao11 t457.length co11, .slice Ao15 t460.length co15] 30 (0, 0)) (kP BK465) NB465_0.out (by simp))) (aI (aM (Kd.R_mono (Kd.R_keep (IsS123.apart (show IsS123 w0 _ g s0_0 t476 t477 from IsS123.iI HI0) (rP HO468.out) (by decide)) hk (fun _ h => h.2)) (fun _ h => h.1))) (aI (aM (Kd.R_mono (Kd.R_keep (IsS123.apart (show IsS123 w0 _ g s0_0 t476 t477 from IsS123.iI HI0) (rP HO474.out) (by decide)) hk (fun _ h => h.2)) (fun _ h => h.1))) (aI (aM (Kd.R_mono (Kd.R_keep (IsS123.apart (show IsS123 w0 _ g s0_0 t476 t477 from IsS123.iI HI0) (rP HO502.out) (by decide)) hk (fun _ h => h.2)) (fun _ h => h.1))) (aI (aM (KeepBut.trans (bK HK) hk (.inl rfl))) (aI (aM (hb)) (aM (hi)))))))))); clear BK456 HO459 HO462 BK465 HO468 HO474 HO502 HK HB HI0; obtain ⟨BK456, HO459, HO462, BK465, HO468, HO474, HO502, HK, HB, HI0⟩ := n_; (try clear hb hk hi)) | ((with_reducible refine gate_dst (N := 55) rfl ?_); refine Kd.R_make k65 _ 65 rfl (N := 55) rfl 28 _ _ rfl t503 rfl rfl Try.underlying28 (.agg #[(.int .i64 0), (.string ⟨#[]⟩)]) 24 info65 rfl (by decide) (by omega) z65 (ok := fun _ => True) (okp := fun _ => True) (k65_mkM _ _ _ z65 ) (fun _ hk => hk) trivial (dT) (Nat.le_trans (Nat.mul_le_mul_right _ (dT : t503.toNat ≤ 11728124029610)) (by omega)) (Below.refl _ _) (Nat.le_refl _) ?_; intro v507 w73 ho74 hb hg_ hnew_; clear hg_ hnew_; (first | rw [← Ny506.out] at ho74 | (simp only [Int.reduceToNat] at ho74; rw [← Ny506.out] at ho74)); have n_ := aI (rB HO459 hb) (aI (eR HO462 ho74 hb) (aI (rB HO468 hb) (aI (rB HO474 hb) (aI (rB HO502 hb) (aI (aM (Kd.R_lower (Kd.R_new' ho74 (rL HO462)) (keep_size (w := w) (g := g) (row := none) (bK HK)))) (aI (aM (IsS123.below (IsS123.iI HI0) hb)) (aI (kB BK456 hb) (aI (kB BK465 hb) (aI (aM (KeepBut.trans (bK HK) (KeepBut.of_below hb g none) (.inl rfl))) (sB HB hb)))))))))); clear HO459 HO462 HO468 HO474 HO502 HI0 BK456 BK465 HK HB; obtain ⟨HO459, HO462, HO468, HO474, HO502, HO508, HI0, BK456, BK465, HK, HB⟩ := n_; (try clear hb ho74); obtain ⟨Ao75, co75, eo75⟩ := Kd.R_slice HO508.out; subst eo75; have hnb76 := NB465_456.out; have hnc76 := NB456_465.out; have hnb77 := NB465_0.out; have hnc77 := NB0_465.out; have hcz78_0 := cZ0 BK465; have hcz78_1 := cZ1 BK465; have hfz78_0 := fZ BK465 0; have hfz78_1 := fZ BK465 1))
       go_meet
       case rel => exact ⟨_, (t504), (t505), (t457), (y506), (.slice Ao11 t457.length co11), (.slice Ao75 y506.length co75), H', ⟨by first | omega | exact Nat.le_refl _⟩, ⟨rP (Kd.R_mono (Kd.R_far (p := ⟨gb465, 1, none⟩) (Kd.R_types HO459.out BK465.out (by decide)) (fun _ hk => hk.2) (.slice Ao75 y506.length co75)) (fun _ hk => trivial))⟩, ⟨rP (Kd.R_mono (Kd.R_far (p := ⟨gb465, 1, none⟩) (Kd.R_types HO508.out BK465.out (by decide)) (fun _ hk => hk.2) (.slice Ao75 y506.length co75)) (fun _ hk => trivial))⟩, ⟨kP BK456⟩, ⟨by (with_reducible repeat (first | apply bN | apply bD | apply bA)); refine blk_put (cs := #[.slice Ao11 t457.length co11, .slice Ao15 t460.length co15]) ?_ 1 _ rfl; (with_reducible repeat (first | apply bN | apply bD | apply bA)); exact BK465.out⟩, ⟨IsS123.iI HI0⟩, ⟨bK HK⟩, ⟨bB⟩⟩
      rw [if_neg c68] at H
      exact absurd H (by simp)
     rw [if_neg c67] at H
     exact absurd H (by simp)
    rw [if_neg c65] at H
    have c65b0 : (t475 == 4) = false := beq_eq_false_iff_ne.mpr c65
    have c65b1 : (t475 != 4) = true := bne_iff_ne.mpr c65
    have H' := aM H
    clear H
    go_wp2
    go_meet
    case rel => exact ⟨_, (t476), (t477), (t457), (t460), (.slice Ao11 t457.length co11), (.slice Ao15 t460.length co15), H', ⟨by first | omega | exact Nat.le_refl _⟩, ⟨rP HO459.out⟩, ⟨rP HO462.out⟩, ⟨kP BK456⟩, ⟨kP BK465⟩, ⟨IsS123.iI HI0⟩, ⟨bK HK⟩, ⟨bB⟩⟩
   case rest =>
    clear HC7
    try clear c1
    try clear c2
    try clear p2
    try clear q2
    try clear hx2
    try clear hcv2
    try clear qi2
    try clear hf2
    try clear c3
    try clear c4
    try clear c4b0
    try clear c4b1
    try clear c5
    try clear c5b0
    try clear c5b1
    try clear c6
    try clear c7
    try clear c8
    try clear c9
    try clear c11
    try clear c12
    try clear c13
    try clear hcv22
    try clear c24
    try clear c24b0
    try clear c24b1
    try clear c24b2
    try clear c25
    try clear c25b0
    try clear c25b1
    try clear p26
    try clear q26
    try clear hx26
    try clear qi26
    try clear hf26
    try clear c27
    try clear c28
    try clear c32
    try clear c32b0
    try clear c32b1
    try clear c34
    try clear c43
    try clear c43b0
    try clear c43b1
    try clear c44
    try clear c45
    try clear c46
    try clear c51
    try clear c51b0
    try clear c51b1
    try clear c53
    try clear c53b0
    try clear c53b1
    try clear c54
    try clear c54b0
    try clear c54b1
    try clear c62
    try clear c63
    try clear c65
    try clear c65b0
    try clear c65b1
    try clear c67
    try clear c67b0
    try clear c67b1
    try clear c68
    try clear c68b0
    try clear c68b1
    try clear c76
    try clear c77
    try clear hcz14_0
    try clear hcz14_1
    try clear hcz29_0
    try clear hcz29_1
    try clear hcz47_0
    try clear hcz47_1
    try clear hcz50_0
    try clear hcz50_1
    try clear hcz64_0
    try clear hcz64_1
    try clear hcz78_0
    try clear hcz78_1
    try clear hfz14_0
    try clear hfz14_1
    try clear hfz29_0
    try clear hfz29_1
    try clear hfz47_0
    try clear hfz47_1
    try clear hfz50_0
    try clear hfz50_1
    try clear hfz64_0
    try clear hfz64_1
    try clear hfz78_0
    try clear hfz78_1
    try clear hx26_0
    try clear p26
    try clear q26
    obtain ⟨kq, x1001_6, x1002_6, x466000_6, x466001_6, u466000, u466001, HA, HJ6, HO_466000, HO_466001, BK456, BK465, HI0, HK, HB⟩ := hcut
    cases kq with
    | zero => exact absurd HA.out (by simp [spec_l3Draw.j0])
    | succ kj6 =>
     have H := HA.out
     clear HA
     simp only [spec_l3Draw.j0] at H
     simp only [Option.some.injEq, Prod.mk.injEq] at H
     obtain ⟨rfl, rfl, rfl, rfl⟩ := H
     have hnb79 := NB465_456.out
     have hnc79 := NB456_465.out
     have hnb80 := NB465_0.out
     have hnc80 := NB0_465.out
     have hcz81_0 := cZ0 BK465
     have hcz81_1 := cZ1 BK465
     have hfz81_0 := fZ BK465 0
     have hfz81_1 := fZ BK465 1
     obtain ⟨Ao82, co82, eo82⟩ := Kd.R_slice HO_466000.out
     subst eo82
     have hnb83 := NB456_0.out
     have hnc83 := NB0_456.out
     have hcz84_0 := cZ0 BK456
     have hcz84_1 := cZ1 BK456
     have hfz84_0 := fZ BK456 0
     have hfz84_1 := fZ BK456 1
     obtain ⟨Ao85, co85, eo85⟩ := Kd.R_slice HO_466001.out
     subst eo85
     go_wp2
     refine bodyPost_ret (results_cell_row rfl _ _ gb456 30 #[.slice Ao82 x466000_6.length co82, .slice Ao85 x466001_6.length co85] (0, 0) _ rfl (by (with_reducible repeat (first | apply bN | apply bD | apply bA)); refine blk_put (cs := #[.slice Ao82 x466000_6.length co82, .slice none 0 0]) ?_ 1 _ rfl; (with_reducible repeat (first | apply bN | apply bD | apply bA)); refine blk_put (cs := #[.slice none 0 0, .slice none 0 0]) ?_ 0 _ rfl; (with_reducible repeat (first | apply bN | apply bD | apply bA)); exact BK456.out) Try.underlying30 rfl (by kernel_rfl)) rfl ?_
     exact ⟨_, _, eW, by (with_reducible repeat (first | apply Kd.R_alloc | apply Kd.R_drewN | apply Kd.R_drew)); exact Kd.R_mono (Kd.R_far (p := ⟨gb456, 1, none⟩) (Kd.R_far (p := ⟨gb456, 0, none⟩) (Kd.R_types HO_466000.out BK456.out (by decide)) (fun _ hk => hk.2) (.slice Ao82 x466000_6.length co82)) (fun _ hk => hk.2) (.slice Ao85 x466001_6.length co85)) (fun _ hk => trivial), by (with_reducible repeat (first | apply Kd.R_alloc | apply Kd.R_drewN | apply Kd.R_drew)); exact Kd.R_mono (Kd.R_far (p := ⟨gb456, 1, none⟩) (Kd.R_far (p := ⟨gb456, 0, none⟩) (Kd.R_types HO_466001.out BK456.out (by decide)) (fun _ hk => hk.2) (.slice Ao82 x466000_6.length co82)) (fun _ hk => hk.2) (.slice Ao85 x466001_6.length co85)) (fun _ hk => trivial), IsS123.iI HI0, bB, bK HK⟩
  rw [if_neg c5] at H
  exact absurd H (by simp)
 rw [if_neg c4] at H
 exact absurd H (by simp)

/-! ### spec_SectorWrite: function 28 -/
def spec_SectorWrite.f (k : Nat) (l0_0 : List ByteArray) (l0_1 : List (S65)) (a1 : Int) (a2 : ByteArray) : Option (List ByteArray × (List (S65)) × Bool) := (spec_l3Copy.f l0_0 l0_1).bind fun bt511 => (if bt511.2.length < 5864062014805 then ((some (bt511.2 ++ [(⟨a1, a2⟩ : S65)] : List (S65))).bind fun y518 => ((spec_DiskOk.f k l0_0 l0_1).bind fun t521 => (if t521 = true then ((spec_DiskOk.f k bt511.1 y518).bind fun t522 => (if t522 = true then (some (bt511.1, y518, true)) else ((spec_l3Copy.f l0_0 l0_1).bind fun bt523 => (some (bt523.1, bt523.2, false))))) else ((spec_l3Copy.f l0_0 l0_1).bind fun bt529 => (some (bt529.1, bt529.2, false)))))) else (none))
theorem spec_SectorWrite.mono : ∀ a0 a1 a2 a3 k, LeO (spec_SectorWrite.f k a0 a1 a2 a3) (spec_SectorWrite.f (k + 1) a0 a1 a2 a3) := by
 intro a0 a1 a2 a3 k
 unfold spec_SectorWrite.f
 have m0_ := @spec_DiskOk.mono
 exact mM
set_option maxHeartbeats 8000000 in
set_option maxRecDepth 100000 in
theorem spec_SectorWrite.calls (k : Nat) (A0_0 : Option Addr) (c0_0 : Nat) (l0_0 : List ByteArray) (A0_1 : Option Addr) (c0_1 : Nat) (l0_1 : List (S65)) (a1 : Int) (a2 : ByteArray) (r1 : List ByteArray) (r2 : List (S65)) (r3 : Bool) (w : World) (hr0_0 : Kd.C Kd.string w A0_0 l0_0.length l0_0) (hc0_0 : l0_0.length ≤ c0_0) (hr0_1 : Kd.C k65 w A0_1 l0_1.length l0_1) (hc0_1 : l0_1.length ≤ c0_1) (h : spec_SectorWrite.f k l0_0 l0_1 a1 a2 = some (r1, r2, r3)) :
  Calls Try.prog 28 #[.agg #[.slice A0_0 l0_0.length c0_0, .slice A0_1 l0_1.length c0_1], .int .i64 a1, .string a2] w fun e w' => ∃ v0_ v1_ : Value, e = .returned (.tuple #[.agg #[v0_, v1_], .bool r3]) ∧ Kd.R Kd.string 9 w' w.heap.size (fun _ => True) v0_ r1 ∧ Kd.R k65 65 w' w.heap.size (fun _ => True) v1_ r2 ∧ Below w.heap.size w w' := by
 have hu30 := Try.underlying30
 have hu65 := Try.underlying65
 have HR0_0 := aM hr0_0
 have HC0_0 := aM hc0_0
 clear hr0_0 hc0_0
 have HR0_1 := aM hr0_1
 have HC0_1 := aM hc0_1
 clear hr0_1 hc0_1
 have HB := aM (Below.refl w.heap.size w)
 unfold spec_SectorWrite.f at h
 have H := h
 clear h
 replace H := Option.bind_eq_some_iff.mp H
 obtain ⟨⟨t511, t514⟩, A40, H⟩ := H
 try dsimp only at H
 have A4 := aM A40
 clear A40
 by_cases c5 : t514.length < 5864062014805
 ·rw [if_pos c5] at H
  have LMc5 := aM c5
  clear c5
  obtain ⟨y518, hy518⟩ : ∃ y_ : List (S65), y_ = (t514 ++ [(⟨a1, a2⟩ : S65)]) := ⟨_, rfl⟩
  replace H : ((spec_DiskOk.f k l0_0 l0_1).bind fun t521 => (if t521 = true then ((spec_DiskOk.f k t511 y518).bind fun t522 => (if t522 = true then (some (t511, y518, true)) else ((spec_l3Copy.f l0_0 l0_1).bind fun bt523 => (some (bt523.1, bt523.2, false))))) else ((spec_l3Copy.f l0_0 l0_1).bind fun bt529 => (some (bt529.1, bt529.2, false))))) = some (r1, r2, r3) := bQ hy518 H
  have Ny518 := aM hy518
  clear hy518
  replace H := Option.bind_eq_some_iff.mp H
  obtain ⟨t521, A60, H⟩ := H
  try dsimp only at H
  have A6 := aM A60
  clear A60
  by_cases c7 : t521 = true
  ·subst c7
   rw [if_pos rfl] at H
   replace H := Option.bind_eq_some_iff.mp H
   obtain ⟨t522, A80, H⟩ := H
   try dsimp only at H
   have A8 := aM A80
   clear A80
   by_cases c9 : t522 = true
   ·subst c9
    rw [if_pos rfl] at H
    simp only [Option.some.injEq, Prod.mk.injEq] at H
    obtain ⟨rfl, rfl, rfl⟩ := H
    go_enter Try.func28, Try.ntmps28
    go_wp2_with (first | ((with_reducible refine gate_dst (N := 3) rfl ?_); refine bE 3 #[.slice A0_0 l0_0.length c0_0, .slice A0_1 l0_1.length c0_1] 30 ?_; intro gb509 hg w10 hbox hb; have n_ := aI (sB HB hb) (aI (aM hbox) (aI (gE HB hg) (gE HB hg))); clear HB; obtain ⟨HB, BK509, GW509, GE509⟩ := n_; (try clear hb hbox hg)) | ((with_reducible refine gate_dst (N := 6) rfl ?_); refine bE 6 #[.slice none 0 0, .slice none 0 0] 30 ?_; intro gb510 hg w11 hbox hb; have n_ := aI (kB BK509 hb) (aI (sB HB hb) (aI (aM hbox) (aI (gE HB hg) (aI (gE HB hg) (aI (nL BK509 hg) (nG BK509 hg)))))); clear BK509 HB; obtain ⟨BK509, HB, BK510, GW510, GE510, NB509_510, NB510_509⟩ := n_; (try clear hb hbox hg); have hnb12 := NB509_510.out; have hnc12 := NB510_509.out; have hcz13_0 := cZ0 BK509; have hcz13_1 := cZ1 BK509; have hfz13_0 := fZ BK509 0; have hfz13_1 := fZ BK509 1) | ((with_reducible refine gate_callee (f := 75) rfl ?_); refine gL (some 10) Try.func75 #[.agg #[.slice A0_0 l0_0.length c0_0, .slice A0_1 l0_1.length c0_1]] ?_; (with_reducible refine (spec_l3Copy.calls _ _ l0_0 _ _ l0_1 t511 t514 _ ?side1 ?side2 ?side3 ?side4 A4.out).mono ?_); (case side1 => exact cS HR0_0 HB); (case side2 => exact HC0_0.out); (case side3 => exact cS HR0_1 HB); (case side4 => exact HC0_1.out); rintro e w14 ⟨v512, v515, rfl, ho0, ho1, hb⟩; refine ⟨_, rfl, ?_⟩; have n_ := aI (lR HB ho0) (aI (lR HB ho1) (aI (kB BK509 hb) (aI (kB BK510 hb) (sB HB hb)))); clear BK509 BK510 HB; obtain ⟨HO513, HO516, BK509, BK510, HB⟩ := n_; (try clear hb ho0 ho1)) | ((with_reducible refine gate_dst (N := 8) rfl ?_); refine bE 8 #[.slice none 0 0, .slice none 0 0] 30 ?_; intro gb517 hg w15 hbox hb; have n_ := aI (rB HO513 hb) (aI (rB HO516 hb) (aI (kB BK509 hb) (aI (kB BK510 hb) (aI (sB HB hb) (aI (aM hbox) (aI (gE HB hg) (aI (gE HB hg) (aI (nL BK509 hg) (aI (nG BK509 hg) (aI (nL BK510 hg) (nG BK510 hg))))))))))); clear HO513 HO516 BK509 BK510 HB; obtain ⟨HO513, HO516, BK509, BK510, HB, BK517, GW517, GE517, NB509_517, NB517_509, NB510_517, NB517_510⟩ := n_; (try clear hb hbox hg); obtain ⟨Ao16, co16, eo16⟩ := Kd.R_slice HO513.out; subst eo16; have hnb17 := NB517_509.out; have hnc17 := NB509_517.out; have hnb18 := NB517_510.out; have hnc18 := NB510_517.out; have hcz19_0 := cZ0 BK517; have hcz19_1 := cZ1 BK517; have hfz19_0 := fZ BK517 0; have hfz19_1 := fZ BK517 1; obtain ⟨Ao20, co20, eo20⟩ := Kd.R_slice HO516.out; subst eo20) | ((with_reducible refine gate_builtin (b := .append) (xs := #[.tmp 12, .tmp 16]) rfl ?_); at_builtin; refine Kd.R_append k65 (w0 := w) w.heap.size rfl (.tmp 12) (.tmp 16) 28 65 (.agg #[(.int .i64 0), (.string ⟨#[]⟩)]) 24 rfl Try.underlying28 info65 rfl (by decide) (by omega) (.slice Ao20 t514.length co20) t514 (⟨a1, a2⟩ : S65) [.int .i64 a1, .string a2] (fun _ => True) (fun _ => False) rfl (by first | (go_simp; done) | (go_simp; rfl)) ?aP (fun _ hk => hk.elim) ?aF ?aO ?aB ?aS ?aL ?_; (case aP => exact k65_mkM _ _ _ (⟨a1, a2⟩ : S65)); (case aB => exact bB); (case aF => exact (fun _ _ => trivial)); (case aO => exact (rP (Kd.R_mono (Kd.R_far (p := ⟨gb517, 1, none⟩) (Kd.R_far (p := ⟨gb517, 0, none⟩) (Kd.R_types HO516.out BK517.out (by decide)) (fun _ hk => hk.2) (.slice Ao16 t511.length co16)) (fun _ hk => hk.2) (.slice Ao20 t514.length co20)) (fun _ hk => trivial)))); (case aS => exact (zB HB)); (case aL => have := LMc5.out; omega); intro v519 w21 ho hb hg hat; rw [← Ny518.out] at ho; have n_ := aI (aM (blk_grown (g := gb509) (o := .cells #[.slice A0_0 l0_0.length c0_0, .slice A0_1 l0_1.length c0_1] 30 (0, 0)) (kP BK509) hg (Kd.R_ne HO516.out BK509.out (by decide)))) (aI (aM (blk_grown (g := gb510) (o := .cells #[.slice none 0 0, .slice none 0 0] 30 (0, 0)) (kP BK510) hg (Kd.R_ne HO516.out BK510.out (by decide)))) (aI (aM (Kd.R_over' (rP (Kd.R_mono (Kd.R_far (p := ⟨gb517, 1, none⟩) (Kd.R_far (p := ⟨gb517, 0, none⟩) (Kd.R_types HO513.out BK517.out (by decide)) (fun _ hk => hk.2) (.slice Ao16 t511.length co16)) (fun _ hk => hk.2) (.slice Ao20 t514.length co20)) (fun _ h_ => h_.1))) (Kd.R_typed (rP (Kd.R_mono (Kd.R_far (p := ⟨gb517, 1, none⟩) (Kd.R_far (p := ⟨gb517, 0, none⟩) (Kd.R_types HO516.out BK517.out (by decide)) (fun _ hk => hk.2) (.slice Ao16 t511.length co16)) (fun _ hk => hk.2) (.slice Ao20 t514.length co20)) (fun _ h_ => h_.1)))) (by decide) hg)) (aI (aM (blk_grown (g := gb517) (o := .cells #[.slice Ao16 t511.length co16, .slice Ao20 t514.length co20] 30 (0, 0)) (by (with_reducible repeat (first | apply bN | apply bD | apply bA)); refine blk_put (cs := #[.slice Ao16 t511.length co16, .slice none 0 0]) ?_ 1 _ rfl; (with_reducible repeat (first | apply bN | apply bD | apply bA)); refine blk_put (cs := #[.slice none 0 0, .slice none 0 0]) ?_ 0 _ rfl; (with_reducible repeat (first | apply bN | apply bD | apply bA)); exact BK517.out) hg (Kd.R_ne HO516.out BK517.out (by decide)))) (aI (aM (hb)) (aM (ho)))))); clear BK509 BK510 HO513 BK517 HB HO516; obtain ⟨BK509, BK510, HO513, BK517, HB, HO520⟩ := n_; (try clear ho hb hg hat); obtain ⟨Ao22, co22, eo22⟩ := Kd.R_slice HO520.out; subst eo22; have hcz23_0 := cZ0 BK517; have hcz23_1 := cZ1 BK517; have hfz23_0 := fZ BK517 0; have hfz23_1 := fZ BK517 1; have hcz24_0 := cZ0 BK509; have hcz24_1 := cZ1 BK509; have hfz24_0 := fZ BK509 0; have hfz24_1 := fZ BK509 1) | ((with_reducible refine gate_callee (f := 16) rfl ?_); refine gL (some 20) Try.func16 #[.agg #[.slice A0_0 l0_0.length c0_0, .slice A0_1 l0_1.length c0_1]] ?_; (with_reducible refine (spec_DiskOk.calls k _ _ l0_0 _ _ l0_1 true _ ?side1 ?side2 ?side3 ?side4 A6.out).mono ?_); (case side1 => exact cS HR0_0 HB); (case side2 => exact HC0_0.out); (case side3 => exact cS HR0_1 HB); (case side4 => exact HC0_1.out); rintro e w25 ⟨rfl, hb⟩; refine ⟨_, rfl, ?_⟩; have n_ := aI (aM (Kd.R_below (rP (Kd.R_mono (Kd.R_far (p := ⟨gb517, 1, none⟩) (Kd.R_types HO513.out BK517.out (by decide)) (fun _ hk => hk.2) (.slice Ao22 y518.length co22)) (fun _ h_ => h_.1))) hb)) (aI (aM (Kd.R_below (rP (Kd.R_mono (Kd.R_far (p := ⟨gb517, 1, none⟩) (Kd.R_types HO520.out BK517.out (by decide)) (fun _ hk => hk.2) (.slice Ao22 y518.length co22)) (fun _ h_ => h_.1))) hb)) (aI (kB BK509 hb) (aI (kB BK510 hb) (aI (aM (blk_below (g := gb517) (o := .cells #[.slice Ao16 t511.length co16, .slice Ao22 y518.length co22] 30 (0, 0)) (by (with_reducible repeat (first | apply bN | apply bD | apply bA)); refine blk_put (cs := #[.slice Ao16 t511.length co16, .slice Ao20 t514.length co20]) ?_ 1 _ rfl; (with_reducible repeat (first | apply bN | apply bD | apply bA)); exact BK517.out) hb)) (sB HB hb))))); clear HO513 HO520 BK509 BK510 BK517 HB; obtain ⟨HO513, HO520, BK509, BK510, BK517, HB⟩ := n_; (try clear hb); have hcz26_0 := cZ0 BK517; have hcz26_1 := cZ1 BK517; have hfz26_0 := fZ BK517 0; have hfz26_1 := fZ BK517 1) | (go_at_call 16; (with_reducible refine (spec_DiskOk.calls k _ _ t511 _ _ y518 true _ ?side1 ?side2 ?side3 ?side4 A8.out).mono ?_); (case side1 => exact cR HO513); (case side2 => exact (Kd.R_reads' HO513.out).2.1); (case side3 => exact cR HO520); (case side4 => exact (Kd.R_reads' HO520.out).2.1); rintro e w27 ⟨rfl, hb⟩; have n_ := aI (rB HO513 hb) (aI (rB HO520 hb) (aI (kB BK509 hb) (aI (kB BK510 hb) (aI (kB BK517 hb) (sB HB hb))))); clear HO513 HO520 BK509 BK510 BK517 HB; obtain ⟨HO513, HO520, BK509, BK510, BK517, HB⟩ := n_; (try clear hb); have hcz28_0 := cZ0 BK517; have hcz28_1 := cZ1 BK517; have hfz28_0 := fZ BK517 0; have hfz28_1 := fZ BK517 1; have hcz29_0 := cZ0 BK510; have hcz29_1 := cZ1 BK510; have hfz29_0 := fZ BK510 0; have hfz29_1 := fZ BK510 1))
    refine bodyPost_ret (results_ct rfl _ _ gb510 30 #[.slice Ao16 t511.length co16, .slice Ao22 y518.length co22] (0, 0) _ rfl (by (with_reducible repeat (first | apply bN | apply bD | apply bA)); refine blk_put (cs := #[.slice Ao16 t511.length co16, .slice none 0 0]) ?_ 1 _ rfl; (with_reducible repeat (first | apply bN | apply bD | apply bA)); refine blk_put (cs := #[.slice none 0 0, .slice none 0 0]) ?_ 0 _ rfl; (with_reducible repeat (first | apply bN | apply bD | apply bA)); exact BK510.out) Try.underlying30 rfl (by kernel_rfl)) rfl ?_
    exact ⟨_, _, eW, by (with_reducible repeat (first | apply Kd.R_alloc | apply Kd.R_drewN | apply Kd.R_drew)); exact Kd.R_mono (Kd.R_far (p := ⟨gb510, 1, none⟩) (Kd.R_far (p := ⟨gb510, 0, none⟩) (Kd.R_types HO513.out BK510.out (by decide)) (fun _ hk => hk.2) (.slice Ao16 t511.length co16)) (fun _ hk => hk.2) (.slice Ao22 y518.length co22)) (fun _ hk => trivial), by (with_reducible repeat (first | apply Kd.R_alloc | apply Kd.R_drewN | apply Kd.R_drew)); exact Kd.R_mono (Kd.R_far (p := ⟨gb510, 1, none⟩) (Kd.R_far (p := ⟨gb510, 0, none⟩) (Kd.R_types HO520.out BK510.out (by decide)) (fun _ hk => hk.2) (.slice Ao16 t511.length co16)) (fun _ hk => hk.2) (.slice Ao22 y518.length co22)) (fun _ hk => trivial), bB⟩
   replace c9 := Bool.eq_false_iff.mpr c9
   subst c9
   rw [if_neg (show ¬ (false = true) by decide)] at H
   replace H := Option.bind_eq_some_iff.mp H
   obtain ⟨⟨t523, t526⟩, A300, H⟩ := H
   try dsimp only at H
   have A30 := aM A300
   clear A300
   simp only [Option.some.injEq, Prod.mk.injEq] at H
   obtain ⟨rfl, rfl, rfl⟩ := H
   go_enter Try.func28, Try.ntmps28
   go_wp2_with (first | ((with_reducible refine gate_dst (N := 3) rfl ?_); refine bE 3 #[.slice A0_0 l0_0.length c0_0, .slice A0_1 l0_1.length c0_1] 30 ?_; intro gb509 hg w31 hbox hb; have n_ := aI (sB HB hb) (aI (aM hbox) (aI (gE HB hg) (gE HB hg))); clear HB; obtain ⟨HB, BK509, GW509, GE509⟩ := n_; (try clear hb hbox hg)) | ((with_reducible refine gate_dst (N := 6) rfl ?_); refine bE 6 #[.slice none 0 0, .slice none 0 0] 30 ?_; intro gb510 hg w32 hbox hb; have n_ := aI (kB BK509 hb) (aI (sB HB hb) (aI (aM hbox) (aI (gE HB hg) (aI (gE HB hg) (aI (nL BK509 hg) (nG BK509 hg)))))); clear BK509 HB; obtain ⟨BK509, HB, BK510, GW510, GE510, NB509_510, NB510_509⟩ := n_; (try clear hb hbox hg); have hnb33 := NB509_510.out; have hnc33 := NB510_509.out; have hcz34_0 := cZ0 BK509; have hcz34_1 := cZ1 BK509; have hfz34_0 := fZ BK509 0; have hfz34_1 := fZ BK509 1) | ((with_reducible refine gate_callee (f := 75) rfl ?_); refine gL (some 10) Try.func75 #[.agg #[.slice A0_0 l0_0.length c0_0, .slice A0_1 l0_1.length c0_1]] ?_; (with_reducible refine (spec_l3Copy.calls _ _ l0_0 _ _ l0_1 t511 t514 _ ?side1 ?side2 ?side3 ?side4 A4.out).mono ?_); (case side1 => exact cS HR0_0 HB); (case side2 => exact HC0_0.out); (case side3 => exact cS HR0_1 HB); (case side4 => exact HC0_1.out); rintro e w35 ⟨v512, v515, rfl, ho0, ho1, hb⟩; refine ⟨_, rfl, ?_⟩; have n_ := aI (lR HB ho0) (aI (lR HB ho1) (aI (kB BK509 hb) (aI (kB BK510 hb) (sB HB hb)))); clear BK509 BK510 HB; obtain ⟨HO513, HO516, BK509, BK510, HB⟩ := n_; (try clear hb ho0 ho1)) | ((with_reducible refine gate_dst (N := 8) rfl ?_); refine bE 8 #[.slice none 0 0, .slice none 0 0] 30 ?_; intro gb517 hg w36 hbox hb; have n_ := aI (rB HO513 hb) (aI (rB HO516 hb) (aI (kB BK509 hb) (aI (kB BK510 hb) (aI (sB HB hb) (aI (aM hbox) (aI (gE HB hg) (aI (gE HB hg) (aI (nL BK509 hg) (aI (nG BK509 hg) (aI (nL BK510 hg) (nG BK510 hg))))))))))); clear HO513 HO516 BK509 BK510 HB; obtain ⟨HO513, HO516, BK509, BK510, HB, BK517, GW517, GE517, NB509_517, NB517_509, NB510_517, NB517_510⟩ := n_; (try clear hb hbox hg); obtain ⟨Ao37, co37, eo37⟩ := Kd.R_slice HO513.out; subst eo37; have hnb38 := NB517_509.out; have hnc38 := NB509_517.out; have hnb39 := NB517_510.out; have hnc39 := NB510_517.out; have hcz40_0 := cZ0 BK517; have hcz40_1 := cZ1 BK517; have hfz40_0 := fZ BK517 0; have hfz40_1 := fZ BK517 1; obtain ⟨Ao41, co41, eo41⟩ := Kd.R_slice HO516.out; subst eo41) | ((with_reducible refine gate_builtin (b := .append) (xs := #[.tmp 12, .tmp 16]) rfl ?_); at_builtin; refine Kd.R_append k65 (w0 := w) w.heap.size rfl (.tmp 12) (.tmp 16) 28 65 (.agg #[(.int .i64 0), (.string ⟨#[]⟩)]) 24 rfl Try.underlying28 info65 rfl (by decide) (by omega) (.slice Ao41 t514.length co41) t514 (⟨a1, a2⟩ : S65) [.int .i64 a1, .string a2] (fun _ => True) (fun _ => False) rfl (by first | (go_simp; done) | (go_simp; rfl)) ?aP (fun _ hk => hk.elim) ?aF ?aO ?aB ?aS ?aL ?_; (case aP => exact k65_mkM _ _ _ (⟨a1, a2⟩ : S65)); (case aB => exact bB); (case aF => exact (fun _ _ => trivial)); (case aO => exact (rP (Kd.R_mono (Kd.R_far (p := ⟨gb517, 1, none⟩) (Kd.R_far (p := ⟨gb517, 0, none⟩) (Kd.R_types HO516.out BK517.out (by decide)) (fun _ hk => hk.2) (.slice Ao37 t511.length co37)) (fun _ hk => hk.2) (.slice Ao41 t514.length co41)) (fun _ hk => trivial)))); (case aS => exact (zB HB)); (case aL => have := LMc5.out; omega); intro v519 w42 ho hb hg hat; rw [← Ny518.out] at ho; have n_ := aI (aM (blk_grown (g := gb509) (o := .cells #[.slice A0_0 l0_0.length c0_0, .slice A0_1 l0_1.length c0_1] 30 (0, 0)) (kP BK509) hg (Kd.R_ne HO516.out BK509.out (by decide)))) (aI (aM (blk_grown (g := gb510) (o := .cells #[.slice none 0 0, .slice none 0 0] 30 (0, 0)) (kP BK510) hg (Kd.R_ne HO516.out BK510.out (by decide)))) (aI (aM (Kd.R_over' (rP (Kd.R_mono (Kd.R_far (p := ⟨gb517, 1, none⟩) (Kd.R_far (p := ⟨gb517, 0, none⟩) (Kd.R_types HO513.out BK517.out (by decide)) (fun _ hk => hk.2) (.slice Ao37 t511.length co37)) (fun _ hk => hk.2) (.slice Ao41 t514.length co41)) (fun _ h_ => h_.1))) (Kd.R_typed (rP (Kd.R_mono (Kd.R_far (p := ⟨gb517, 1, none⟩) (Kd.R_far (p := ⟨gb517, 0, none⟩) (Kd.R_types HO516.out BK517.out (by decide)) (fun _ hk => hk.2) (.slice Ao37 t511.length co37)) (fun _ hk => hk.2) (.slice Ao41 t514.length co41)) (fun _ h_ => h_.1)))) (by decide) hg)) (aI (aM (blk_grown (g := gb517) (o := .cells #[.slice Ao37 t511.length co37, .slice Ao41 t514.length co41] 30 (0, 0)) (by (with_reducible repeat (first | apply bN | apply bD | apply bA)); refine blk_put (cs := #[.slice Ao37 t511.length co37, .slice none 0 0]) ?_ 1 _ rfl; (with_reducible repeat (first | apply bN | apply bD | apply bA)); refine blk_put (cs := #[.slice none 0 0, .slice none 0 0]) ?_ 0 _ rfl; (with_reducible repeat (first | apply bN | apply bD | apply bA)); exact BK517.out) hg (Kd.R_ne HO516.out BK517.out (by decide)))) (aI (aM (hb)) (aM (ho)))))); clear BK509 BK510 HO513 BK517 HB HO516; obtain ⟨BK509, BK510, HO513, BK517, HB, HO520⟩ := n_; (try clear ho hb hg hat); obtain ⟨Ao43, co43, eo43⟩ := Kd.R_slice HO520.out; subst eo43; have hcz44_0 := cZ0 BK517; have hcz44_1 := cZ1 BK517; have hfz44_0 := fZ BK517 0; have hfz44_1 := fZ BK517 1; have hcz45_0 := cZ0 BK509; have hcz45_1 := cZ1 BK509; have hfz45_0 := fZ BK509 0; have hfz45_1 := fZ BK509 1) | ((with_reducible refine gate_callee (f := 16) rfl ?_); refine gL (some 20) Try.func16 #[.agg #[.slice A0_0 l0_0.length c0_0, .slice A0_1 l0_1.length c0_1]] ?_; (with_reducible refine (spec_DiskOk.calls k _ _ l0_0 _ _ l0_1 true _ ?side1 ?side2 ?side3 ?side4 A6.out).mono ?_); (case side1 => exact cS HR0_0 HB); (case side2 => exact HC0_0.out); (case side3 => exact cS HR0_1 HB); (case side4 => exact HC0_1.out); rintro e w46 ⟨rfl, hb⟩; refine ⟨_, rfl, ?_⟩; have n_ := aI (aM (Kd.R_below (rP (Kd.R_mono (Kd.R_far (p := ⟨gb517, 1, none⟩) (Kd.R_types HO513.out BK517.out (by decide)) (fun _ hk => hk.2) (.slice Ao43 y518.length co43)) (fun _ h_ => h_.1))) hb)) (aI (aM (Kd.R_below (rP (Kd.R_mono (Kd.R_far (p := ⟨gb517, 1, none⟩) (Kd.R_types HO520.out BK517.out (by decide)) (fun _ hk => hk.2) (.slice Ao43 y518.length co43)) (fun _ h_ => h_.1))) hb)) (aI (kB BK509 hb) (aI (kB BK510 hb) (aI (aM (blk_below (g := gb517) (o := .cells #[.slice Ao37 t511.length co37, .slice Ao43 y518.length co43] 30 (0, 0)) (by (with_reducible repeat (first | apply bN | apply bD | apply bA)); refine blk_put (cs := #[.slice Ao37 t511.length co37, .slice Ao41 t514.length co41]) ?_ 1 _ rfl; (with_reducible repeat (first | apply bN | apply bD | apply bA)); exact BK517.out) hb)) (sB HB hb))))); clear HO513 HO520 BK509 BK510 BK517 HB; obtain ⟨HO513, HO520, BK509, BK510, BK517, HB⟩ := n_; (try clear hb); have hcz47_0 := cZ0 BK517; have hcz47_1 := cZ1 BK517; have hfz47_0 := fZ BK517 0; have hfz47_1 := fZ BK517 1) | (go_at_call 16; (with_reducible refine (spec_DiskOk.calls k _ _ t511 _ _ y518 false _ ?side1 ?side2 ?side3 ?side4 A8.out).mono ?_); (case side1 => exact cR HO513); (case side2 => exact (Kd.R_reads' HO513.out).2.1); (case side3 => exact cR HO520); (case side4 => exact (Kd.R_reads' HO520.out).2.1); rintro e w48 ⟨rfl, hb⟩; have n_ := aI (rB HO513 hb) (aI (rB HO520 hb) (aI (kB BK509 hb) (aI (kB BK510 hb) (aI (kB BK517 hb) (sB HB hb))))); clear HO513 HO520 BK509 BK510 BK517 HB; obtain ⟨HO513, HO520, BK509, BK510, BK517, HB⟩ := n_; (try clear hb); have hcz49_0 := cZ0 BK509; have hcz49_1 := cZ1 BK509; have hfz49_0 := fZ BK509 0; have hfz49_1 := fZ BK509 1) | ((with_reducible refine gate_callee (f := 75) rfl ?_); refine gL (some 28) Try.func75 #[.agg #[.slice A0_0 l0_0.length c0_0, .slice A0_1 l0_1.length c0_1]] ?_; (with_reducible refine (spec_l3Copy.calls _ _ l0_0 _ _ l0_1 t523 t526 _ ?side1 ?side2 ?side3 ?side4 A30.out).mono ?_); (case side1 => exact cS HR0_0 HB); (case side2 => exact HC0_0.out); (case side3 => exact cS HR0_1 HB); (case side4 => exact HC0_1.out); rintro e w50 ⟨v524, v527, rfl, ho0, ho1, hb⟩; refine ⟨_, rfl, ?_⟩; have n_ := aI (eR HO513 ho0 hb) (aI (eR HO520 ho1 hb) (aI (aM (Kd.R_lower (Kd.R_new' ho0 (rL HO513)) (zB HB))) (aI (aM (Kd.R_lower (Kd.R_new' ho1 (rL HO520)) (zB HB))) (aI (kB BK509 hb) (aI (kB BK510 hb) (aI (kB BK517 hb) (sB HB hb))))))); clear HO513 HO520 BK509 BK510 BK517 HB; obtain ⟨HO513, HO520, HO525, HO528, BK509, BK510, BK517, HB⟩ := n_; (try clear hb ho0 ho1); obtain ⟨Ao51, co51, eo51⟩ := Kd.R_slice HO525.out; subst eo51; have hcz52_0 := cZ0 BK510; have hcz52_1 := cZ1 BK510; have hfz52_0 := fZ BK510 0; have hfz52_1 := fZ BK510 1; obtain ⟨Ao53, co53, eo53⟩ := Kd.R_slice HO528.out; subst eo53))
   refine bodyPost_ret (results_ct rfl _ _ gb510 30 #[.slice Ao51 t523.length co51, .slice Ao53 t526.length co53] (0, 0) _ rfl (by (with_reducible repeat (first | apply bN | apply bD | apply bA)); refine blk_put (cs := #[.slice Ao51 t523.length co51, .slice none 0 0]) ?_ 1 _ rfl; (with_reducible repeat (first | apply bN | apply bD | apply bA)); refine blk_put (cs := #[.slice none 0 0, .slice none 0 0]) ?_ 0 _ rfl; (with_reducible repeat (first | apply bN | apply bD | apply bA)); exact BK510.out) Try.underlying30 rfl (by kernel_rfl)) rfl ?_
   exact ⟨_, _, eW, by (with_reducible repeat (first | apply Kd.R_alloc | apply Kd.R_drewN | apply Kd.R_drew)); exact Kd.R_mono (Kd.R_far (p := ⟨gb510, 1, none⟩) (Kd.R_far (p := ⟨gb510, 0, none⟩) (Kd.R_types HO525.out BK510.out (by decide)) (fun _ hk => hk.2) (.slice Ao51 t523.length co51)) (fun _ hk => hk.2) (.slice Ao53 t526.length co53)) (fun _ hk => trivial), by (with_reducible repeat (first | apply Kd.R_alloc | apply Kd.R_drewN | apply Kd.R_drew)); exact Kd.R_mono (Kd.R_far (p := ⟨gb510, 1, none⟩) (Kd.R_far (p := ⟨gb510, 0, none⟩) (Kd.R_types HO528.out BK510.out (by decide)) (fun _ hk => hk.2) (.slice Ao51 t523.length co51)) (fun _ hk => hk.2) (.slice Ao53 t526.length co53)) (fun _ hk => trivial), bB⟩
  replace c7 := Bool.eq_false_iff.mpr c7
  subst c7
  rw [if_neg (show ¬ (false = true) by decide)] at H
  replace H := Option.bind_eq_some_iff.mp H
  obtain ⟨⟨t529, t532⟩, A540, H⟩ := H
  try dsimp only at H
  have A54 := aM A540
  clear A540
  simp only [Option.some.injEq, Prod.mk.injEq] at H
  obtain ⟨rfl, rfl, rfl⟩ := H
  go_enter Try.func28, Try.ntmps28
  go_wp2_with (first | ((with_reducible refine gate_dst (N := 3) rfl ?_); refine bE 3 #[.slice A0_0 l0_0.length c0_0, .slice A0_1 l0_1.length c0_1] 30 ?_; intro gb509 hg w55 hbox hb; have n_ := aI (sB HB hb) (aI (aM hbox) (aI (gE HB hg) (gE HB hg))); clear HB; obtain ⟨HB, BK509, GW509, GE509⟩ := n_; (try clear hb hbox hg)) | ((with_reducible refine gate_dst (N := 6) rfl ?_); refine bE 6 #[.slice none 0 0, .slice none 0 0] 30 ?_; intro gb510 hg w56 hbox hb; have n_ := aI (kB BK509 hb) (aI (sB HB hb) (aI (aM hbox) (aI (gE HB hg) (aI (gE HB hg) (aI (nL BK509 hg) (nG BK509 hg)))))); clear BK509 HB; obtain ⟨BK509, HB, BK510, GW510, GE510, NB509_510, NB510_509⟩ := n_; (try clear hb hbox hg); have hnb57 := NB509_510.out; have hnc57 := NB510_509.out; have hcz58_0 := cZ0 BK509; have hcz58_1 := cZ1 BK509; have hfz58_0 := fZ BK509 0; have hfz58_1 := fZ BK509 1) | ((with_reducible refine gate_callee (f := 75) rfl ?_); refine gL (some 10) Try.func75 #[.agg #[.slice A0_0 l0_0.length c0_0, .slice A0_1 l0_1.length c0_1]] ?_; (with_reducible refine (spec_l3Copy.calls _ _ l0_0 _ _ l0_1 t511 t514 _ ?side1 ?side2 ?side3 ?side4 A4.out).mono ?_); (case side1 => exact cS HR0_0 HB); (case side2 => exact HC0_0.out); (case side3 => exact cS HR0_1 HB); (case side4 => exact HC0_1.out); rintro e w59 ⟨v512, v515, rfl, ho0, ho1, hb⟩; refine ⟨_, rfl, ?_⟩; have n_ := aI (lR HB ho0) (aI (lR HB ho1) (aI (kB BK509 hb) (aI (kB BK510 hb) (sB HB hb)))); clear BK509 BK510 HB; obtain ⟨HO513, HO516, BK509, BK510, HB⟩ := n_; (try clear hb ho0 ho1)) | ((with_reducible refine gate_dst (N := 8) rfl ?_); refine bE 8 #[.slice none 0 0, .slice none 0 0] 30 ?_; intro gb517 hg w60 hbox hb; have n_ := aI (rB HO513 hb) (aI (rB HO516 hb) (aI (kB BK509 hb) (aI (kB BK510 hb) (aI (sB HB hb) (aI (aM hbox) (aI (gE HB hg) (aI (gE HB hg) (aI (nL BK509 hg) (aI (nG BK509 hg) (aI (nL BK510 hg) (nG BK510 hg))))))))))); clear HO513 HO516 BK509 BK510 HB; obtain ⟨HO513, HO516, BK509, BK510, HB, BK517, GW517, GE517, NB509_517, NB517_509, NB510_517, NB517_510⟩ := n_; (try clear hb hbox hg); obtain ⟨Ao61, co61, eo61⟩ := Kd.R_slice HO513.out; subst eo61; have hnb62 := NB517_509.out; have hnc62 := NB509_517.out; have hnb63 := NB517_510.out; have hnc63 := NB510_517.out; have hcz64_0 := cZ0 BK517; have hcz64_1 := cZ1 BK517; have hfz64_0 := fZ BK517 0; have hfz64_1 := fZ BK517 1; obtain ⟨Ao65, co65, eo65⟩ := Kd.R_slice HO516.out; subst eo65) | ((with_reducible refine gate_builtin (b := .append) (xs := #[.tmp 12, .tmp 16]) rfl ?_); at_builtin; refine Kd.R_append k65 (w0 := w) w.heap.size rfl (.tmp 12) (.tmp 16) 28 65 (.agg #[(.int .i64 0), (.string ⟨#[]⟩)]) 24 rfl Try.underlying28 info65 rfl (by decide) (by omega) (.slice Ao65 t514.length co65) t514 (⟨a1, a2⟩ : S65) [.int .i64 a1, .string a2] (fun _ => True) (fun _ => False) rfl (by first | (go_simp; done) | (go_simp; rfl)) ?aP (fun _ hk => hk.elim) ?aF ?aO ?aB ?aS ?aL ?_; (case aP => exact k65_mkM _ _ _ (⟨a1, a2⟩ : S65)); (case aB => exact bB); (case aF => exact (fun _ _ => trivial)); (case aO => exact (rP (Kd.R_mono (Kd.R_far (p := ⟨gb517, 1, none⟩) (Kd.R_far (p := ⟨gb517, 0, none⟩) (Kd.R_types HO516.out BK517.out (by decide)) (fun _ hk => hk.2) (.slice Ao61 t511.length co61)) (fun _ hk => hk.2) (.slice Ao65 t514.length co65)) (fun _ hk => trivial)))); (case aS => exact (zB HB)); (case aL => have := LMc5.out; omega); intro v519 w66 ho hb hg hat; rw [← Ny518.out] at ho; have n_ := aI (aM (blk_grown (g := gb509) (o := .cells #[.slice A0_0 l0_0.length c0_0, .slice A0_1 l0_1.length c0_1] 30 (0, 0)) (kP BK509) hg (Kd.R_ne HO516.out BK509.out (by decide)))) (aI (aM (blk_grown (g := gb510) (o := .cells #[.slice none 0 0, .slice none 0 0] 30 (0, 0)) (kP BK510) hg (Kd.R_ne HO516.out BK510.out (by decide)))) (aI (aM (Kd.R_over' (rP (Kd.R_mono (Kd.R_far (p := ⟨gb517, 1, none⟩) (Kd.R_far (p := ⟨gb517, 0, none⟩) (Kd.R_types HO513.out BK517.out (by decide)) (fun _ hk => hk.2) (.slice Ao61 t511.length co61)) (fun _ hk => hk.2) (.slice Ao65 t514.length co65)) (fun _ h_ => h_.1))) (Kd.R_typed (rP (Kd.R_mono (Kd.R_far (p := ⟨gb517, 1, none⟩) (Kd.R_far (p := ⟨gb517, 0, none⟩) (Kd.R_types HO516.out BK517.out (by decide)) (fun _ hk => hk.2) (.slice Ao61 t511.length co61)) (fun _ hk => hk.2) (.slice Ao65 t514.length co65)) (fun _ h_ => h_.1)))) (by decide) hg)) (aI (aM (blk_grown (g := gb517) (o := .cells #[.slice Ao61 t511.length co61, .slice Ao65 t514.length co65] 30 (0, 0)) (by (with_reducible repeat (first | apply bN | apply bD | apply bA)); refine blk_put (cs := #[.slice Ao61 t511.length co61, .slice none 0 0]) ?_ 1 _ rfl; (with_reducible repeat (first | apply bN | apply bD | apply bA)); refine blk_put (cs := #[.slice none 0 0, .slice none 0 0]) ?_ 0 _ rfl; (with_reducible repeat (first | apply bN | apply bD | apply bA)); exact BK517.out) hg (Kd.R_ne HO516.out BK517.out (by decide)))) (aI (aM (hb)) (aM (ho)))))); clear BK509 BK510 HO513 BK517 HB HO516; obtain ⟨BK509, BK510, HO513, BK517, HB, HO520⟩ := n_; (try clear ho hb hg hat); obtain ⟨Ao67, co67, eo67⟩ := Kd.R_slice HO520.out; subst eo67; have hcz68_0 := cZ0 BK517; have hcz68_1 := cZ1 BK517; have hfz68_0 := fZ BK517 0; have hfz68_1 := fZ BK517 1; have hcz69_0 := cZ0 BK509; have hcz69_1 := cZ1 BK509; have hfz69_0 := fZ BK509 0; have hfz69_1 := fZ BK509 1) | ((with_reducible refine gate_callee (f := 16) rfl ?_); refine gL (some 20) Try.func16 #[.agg #[.slice A0_0 l0_0.length c0_0, .slice A0_1 l0_1.length c0_1]] ?_; (with_reducible refine (spec_DiskOk.calls k _ _ l0_0 _ _ l0_1 false _ ?side1 ?side2 ?side3 ?side4 A6.out).mono ?_); (case side1 => exact cS HR0_0 HB); (case side2 => exact HC0_0.out); (case side3 => exact cS HR0_1 HB); (case side4 => exact HC0_1.out); rintro e w70 ⟨rfl, hb⟩; refine ⟨_, rfl, ?_⟩; have n_ := aI (aM (Kd.R_below (rP (Kd.R_mono (Kd.R_far (p := ⟨gb517, 1, none⟩) (Kd.R_types HO513.out BK517.out (by decide)) (fun _ hk => hk.2) (.slice Ao67 y518.length co67)) (fun _ h_ => h_.1))) hb)) (aI (aM (Kd.R_below (rP (Kd.R_mono (Kd.R_far (p := ⟨gb517, 1, none⟩) (Kd.R_types HO520.out BK517.out (by decide)) (fun _ hk => hk.2) (.slice Ao67 y518.length co67)) (fun _ h_ => h_.1))) hb)) (aI (kB BK509 hb) (aI (kB BK510 hb) (aI (aM (blk_below (g := gb517) (o := .cells #[.slice Ao61 t511.length co61, .slice Ao67 y518.length co67] 30 (0, 0)) (by (with_reducible repeat (first | apply bN | apply bD | apply bA)); refine blk_put (cs := #[.slice Ao61 t511.length co61, .slice Ao65 t514.length co65]) ?_ 1 _ rfl; (with_reducible repeat (first | apply bN | apply bD | apply bA)); exact BK517.out) hb)) (sB HB hb))))); clear HO513 HO520 BK509 BK510 BK517 HB; obtain ⟨HO513, HO520, BK509, BK510, BK517, HB⟩ := n_; (try clear hb); have hcz71_0 := cZ0 BK509; have hcz71_1 := cZ1 BK509; have hfz71_0 := fZ BK509 0; have hfz71_1 := fZ BK509 1) | ((with_reducible refine gate_callee (f := 75) rfl ?_); refine gL (some 28) Try.func75 #[.agg #[.slice A0_0 l0_0.length c0_0, .slice A0_1 l0_1.length c0_1]] ?_; (with_reducible refine (spec_l3Copy.calls _ _ l0_0 _ _ l0_1 t529 t532 _ ?side1 ?side2 ?side3 ?side4 A54.out).mono ?_); (case side1 => exact cS HR0_0 HB); (case side2 => exact HC0_0.out); (case side3 => exact cS HR0_1 HB); (case side4 => exact HC0_1.out); rintro e w72 ⟨v530, v533, rfl, ho0, ho1, hb⟩; refine ⟨_, rfl, ?_⟩; have n_ := aI (eR HO513 ho0 hb) (aI (eR HO520 ho1 hb) (aI (aM (Kd.R_lower (Kd.R_new' ho0 (rL HO513)) (zB HB))) (aI (aM (Kd.R_lower (Kd.R_new' ho1 (rL HO520)) (zB HB))) (aI (kB BK509 hb) (aI (kB BK510 hb) (aI (kB BK517 hb) (sB HB hb))))))); clear HO513 HO520 BK509 BK510 BK517 HB; obtain ⟨HO513, HO520, HO531, HO534, BK509, BK510, BK517, HB⟩ := n_; (try clear hb ho0 ho1); obtain ⟨Ao73, co73, eo73⟩ := Kd.R_slice HO531.out; subst eo73; have hcz74_0 := cZ0 BK510; have hcz74_1 := cZ1 BK510; have hfz74_0 := fZ BK510 0; have hfz74_1 := fZ BK510 1; obtain ⟨Ao75, co75, eo75⟩ := Kd.R_slice HO534.out; subst eo75))
  refine bodyPost_ret (results_ct rfl _ _ gb510 30 #[.slice Ao73 t529.length co73, .slice Ao75 t532.length co75] (0, 0) _ rfl (by (with_reducible repeat (first | apply bN | apply bD | apply bA)); refine blk_put (cs := #[.slice Ao73 t529.length co73, .slice none 0 0]) ?_ 1 _ rfl; (with_reducible repeat (first | apply bN | apply bD | apply bA)); refine blk_put (cs := #[.slice none 0 0, .slice none 0 0]) ?_ 0 _ rfl; (with_reducible repeat (first | apply bN | apply bD | apply bA)); exact BK510.out) Try.underlying30 rfl (by kernel_rfl)) rfl ?_
  exact ⟨_, _, eW, by (with_reducible repeat (first | apply Kd.R_alloc | apply Kd.R_drewN | apply Kd.R_drew)); exact Kd.R_mono (Kd.R_far (p := ⟨gb510, 1, none⟩) (Kd.R_far (p := ⟨gb510, 0, none⟩) (Kd.R_types HO531.out BK510.out (by decide)) (fun _ hk => hk.2) (.slice Ao73 t529.length co73)) (fun _ hk => hk.2) (.slice Ao75 t532.length co75)) (fun _ hk => trivial), by (with_reducible repeat (first | apply Kd.R_alloc | apply Kd.R_drewN | apply Kd.R_drew)); exact Kd.R_mono (Kd.R_far (p := ⟨gb510, 1, none⟩) (Kd.R_far (p := ⟨gb510, 0, none⟩) (Kd.R_types HO534.out BK510.out (by decide)) (fun _ hk => hk.2) (.slice Ao73 t529.length co73)) (fun _ hk => hk.2) (.slice Ao75 t532.length co75)) (fun _ hk => trivial), bB⟩
 rw [if_neg c5] at H
 exact absurd H (by simp)

/-! ### spec_Flush: function 31 -/
def spec_Flush.l0 : Nat → Int → List ByteArray → List (S65) → List ByteArray → List (S65) → Option (List ByteArray × (List (S65)))
 | 0, _, _, _, _, _ => none
 | k + 1, x4, x536000, x536001, x544000, x544001 => if x4 < (x536001.length : Int) then (if 0 ≤ x4 then (if 0 ≤ ((rd_T65 x536001 x4).f0) then (if ((rd_T65 x536001 x4).f0) < (x544000.length : Int) then (spec_Flush.l0 k (wrap64 (x4 + 1)) x536000 x536001 (x544000.set (((rd_T65 x536001 x4).f0) : Int).toNat ((rd_T65 x536001 x4).f1)) x544001) else (none)) else (none)) else (none)) else (some (x544000, ([] : List (S65))))
def spec_Flush.f (k : Nat) (l0_0 : List ByteArray) (l0_1 : List (S65)) : Option (List ByteArray × (List (S65))) := (spec_l3Copy.f l0_0 l0_1).bind fun bt537 => ((spec_DiskOk.f k l0_0 l0_1).bind fun t544 => (if t544 = true then (spec_Flush.l0 k 0 l0_0 l0_1 bt537.1 bt537.2) else (some (bt537.1, bt537.2))))
theorem spec_Flush.mono_l : ∀ k, (∀ y0 y1 y2 y3 y4, LeO (spec_Flush.l0 k y0 y1 y2 y3 y4) (spec_Flush.l0 (k + 1) y0 y1 y2 y3 y4))
 | 0 => fun _ _ _ _ _ r h => by simp [spec_Flush.l0] at h
 | k + 1 => by
  have ih0 := spec_Flush.mono_l k
  ·intro y0 y1 y2 y3 y4
   unfold spec_Flush.l0
   have m0_ := @spec_DiskOk.mono
   exact mM
theorem spec_Flush.mono : ∀ a0 a1 k, LeO (spec_Flush.f k a0 a1) (spec_Flush.f (k + 1) a0 a1) := by
 intro a0 a1 k
 have ih0 := spec_Flush.mono_l k
 unfold spec_Flush.f
 have m0_ := @spec_DiskOk.mono
 exact mM
def spec_Flush.T7 : Bool × List (List Nat × List Nat) := (true, [([], []), ([0], [0]), ([], []), ([2], [2]), ([], []), ([3, 4], [3, 4]), ([5], [5]), ([6], [6]), ([], []), ([8], [8]), ([], []), ([9, 10], [9, 10]), ([11], [11]), ([12], [12]), ([1, 7, 0, 1, 2, 3, 4, 5, 6, 7, 8, 9, 10, 11, 12, 13], [1, 7]), ([14, 13, 0, 1, 2, 3, 4, 5, 6, 7, 8, 9, 10, 11, 12, 13], [13, 14])])
def spec_Flush.B7 : List Nat := [0, 1, 0, 4, 0, 28, 60, 124, 0, 256, 0, 1792, 3840, 7936, 16383, 32767]
theorem spec_Flush.tab7 : rtab .any (opsOf Try.f31 7) = spec_Flush.T7 := by kernel_rfl
theorem spec_Flush.bits7 : waitsOk spec_Flush.T7.2 spec_Flush.B7 = true := by kernel_rfl
set_option maxHeartbeats 8000000 in
set_option maxRecDepth 100000 in
theorem spec_Flush.calls (k : Nat) (A0_0 : Option Addr) (c0_0 : Nat) (l0_0 : List ByteArray) (A0_1 : Option Addr) (c0_1 : Nat) (l0_1 : List (S65)) (r1 : List ByteArray) (r2 : List (S65)) (w : World) (hr0_0 : Kd.C Kd.string w A0_0 l0_0.length l0_0) (hc0_0 : l0_0.length ≤ c0_0) (hr0_1 : Kd.C k65 w A0_1 l0_1.length l0_1) (hc0_1 : l0_1.length ≤ c0_1) (h : spec_Flush.f k l0_0 l0_1 = some (r1, r2)) :
  Calls Try.prog 31 #[.agg #[.slice A0_0 l0_0.length c0_0, .slice A0_1 l0_1.length c0_1]] w fun e w' => ∃ v0_ v1_ : Value, e = .returned (.agg #[v0_, v1_]) ∧ Kd.R Kd.string 9 w' w.heap.size (fun _ => True) v0_ r1 ∧ Kd.R k65 65 w' w.heap.size (fun _ => True) v1_ r2 ∧ Below w.heap.size w w' := by
 have hu30 := Try.underlying30
 have HR0_0 := aM hr0_0
 have HC0_0 := aM hc0_0
 clear hr0_0 hc0_0
 have HR0_1 := aM hr0_1
 have HC0_1 := aM hc0_1
 clear hr0_1 hc0_1
 have HB := aM (Below.refl w.heap.size w)
 unfold spec_Flush.f at h
 have H := h
 clear h
 replace H := Option.bind_eq_some_iff.mp H
 obtain ⟨⟨t537, t540⟩, A20, H⟩ := H
 try dsimp only at H
 have A2 := aM A20
 clear A20
 replace H := Option.bind_eq_some_iff.mp H
 obtain ⟨t544, A30, H⟩ := H
 try dsimp only at H
 have A3 := aM A30
 clear A30
 by_cases c4 : t544 = true
 ·subst c4
  rw [if_pos rfl] at H
  have H' := aM H
  clear H
  go_enter Try.func31, Try.ntmps31
  go_wp2_with (first | ((with_reducible refine gate_dst (N := 1) rfl ?_); refine bE 1 #[.slice A0_0 l0_0.length c0_0, .slice A0_1 l0_1.length c0_1] 30 ?_; intro gb535 hg w5 hbox hb; have n_ := aI (sB HB hb) (aI (aM hbox) (aI (gE HB hg) (gE HB hg))); clear HB; obtain ⟨HB, BK535, GW535, GE535⟩ := n_; (try clear hb hbox hg)) | ((with_reducible refine gate_dst (N := 2) rfl ?_); refine bE 2 #[.slice none 0 0, .slice none 0 0] 30 ?_; intro gb536 hg w6 hbox hb; have n_ := aI (kB BK535 hb) (aI (sB HB hb) (aI (aM hbox) (aI (gE HB hg) (aI (gE HB hg) (aI (nL BK535 hg) (nG BK535 hg)))))); clear BK535 HB; obtain ⟨BK535, HB, BK536, GW536, GE536, NB535_536, NB536_535⟩ := n_; (try clear hb hbox hg); have hnb7 := NB535_536.out; have hnc7 := NB536_535.out; have hcz8_0 := cZ0 BK535; have hcz8_1 := cZ1 BK535; have hfz8_0 := fZ BK535 0; have hfz8_1 := fZ BK535 1) | ((with_reducible refine gate_callee (f := 75) rfl ?_); refine gL (some 6) Try.func75 #[.agg #[.slice A0_0 l0_0.length c0_0, .slice A0_1 l0_1.length c0_1]] ?_; (with_reducible refine (spec_l3Copy.calls _ _ l0_0 _ _ l0_1 t537 t540 _ ?side1 ?side2 ?side3 ?side4 A2.out).mono ?_); (case side1 => exact cS HR0_0 HB); (case side2 => exact HC0_0.out); (case side3 => exact cS HR0_1 HB); (case side4 => exact HC0_1.out); rintro e w9 ⟨v538, v541, rfl, ho0, ho1, hb⟩; refine ⟨_, rfl, ?_⟩; have n_ := aI (lR HB ho0) (aI (lR HB ho1) (aI (kB BK535 hb) (aI (kB BK536 hb) (sB HB hb)))); clear BK535 BK536 HB; obtain ⟨HO539, HO542, BK535, BK536, HB⟩ := n_; (try clear hb ho0 ho1)) | ((with_reducible refine gate_dst (N := 3) rfl ?_); refine bE 3 #[.slice none 0 0, .slice none 0 0] 30 ?_; intro gb543 hg w10 hbox hb; have n_ := aI (rB HO539 hb) (aI (rB HO542 hb) (aI (kB BK535 hb) (aI (kB BK536 hb) (aI (sB HB hb) (aI (aM hbox) (aI (gE HB hg) (aI (gE HB hg) (aI (nL BK535 hg) (aI (nG BK535 hg) (aI (nL BK536 hg) (nG BK536 hg))))))))))); clear HO539 HO542 BK535 BK536 HB; obtain ⟨HO539, HO542, BK535, BK536, HB, BK543, GW543, GE543, NB535_543, NB543_535, NB536_543, NB543_536⟩ := n_; (try clear hb hbox hg); obtain ⟨Ao11, co11, eo11⟩ := Kd.R_slice HO539.out; subst eo11; have hnb12 := NB543_535.out; have hnc12 := NB535_543.out; have hnb13 := NB543_536.out; have hnc13 := NB536_543.out; have hcz14_0 := cZ0 BK543; have hcz14_1 := cZ1 BK543; have hfz14_0 := fZ BK543 0; have hfz14_1 := fZ BK543 1; obtain ⟨Ao15, co15, eo15⟩ := Kd.R_slice HO542.out; subst eo15; have hcz16_0 := cZ0 BK535; have hcz16_1 := cZ1 BK535; have hfz16_0 := fZ BK535 0; have hfz16_1 := fZ BK535 1) | ((with_reducible refine gate_callee (f := 16) rfl ?_); refine gL (some 8) Try.func16 #[.agg #[.slice A0_0 l0_0.length c0_0, .slice A0_1 l0_1.length c0_1]] ?_; (with_reducible refine (spec_DiskOk.calls k _ _ l0_0 _ _ l0_1 true _ ?side1 ?side2 ?side3 ?side4 A3.out).mono ?_); (case side1 => exact cS HR0_0 HB); (case side2 => exact HC0_0.out); (case side3 => exact cS HR0_1 HB); (case side4 => exact HC0_1.out); rintro e w17 ⟨rfl, hb⟩; refine ⟨_, rfl, ?_⟩; have n_ := aI (aM (Kd.R_below (rP (Kd.R_mono (Kd.R_far (p := ⟨gb543, 1, none⟩) (Kd.R_far (p := ⟨gb543, 0, none⟩) (Kd.R_types HO539.out BK543.out (by decide)) (fun _ hk => hk.2) (.slice Ao11 t537.length co11)) (fun _ hk => hk.2) (.slice Ao15 t540.length co15)) (fun _ h_ => h_.1))) hb)) (aI (aM (Kd.R_below (rP (Kd.R_mono (Kd.R_far (p := ⟨gb543, 1, none⟩) (Kd.R_far (p := ⟨gb543, 0, none⟩) (Kd.R_types HO542.out BK543.out (by decide)) (fun _ hk => hk.2) (.slice Ao11 t537.length co11)) (fun _ hk => hk.2) (.slice Ao15 t540.length co15)) (fun _ h_ => h_.1))) hb)) (aI (kB BK535 hb) (aI (kB BK536 hb) (aI (aM (blk_below (g := gb543) (o := .cells #[.slice Ao11 t537.length co11, .slice Ao15 t540.length co15] 30 (0, 0)) (by (with_reducible repeat (first | apply bN | apply bD | apply bA)); refine blk_put (cs := #[.slice Ao11 t537.length co11, .slice none 0 0]) ?_ 1 _ rfl; (with_reducible repeat (first | apply bN | apply bD | apply bA)); refine blk_put (cs := #[.slice none 0 0, .slice none 0 0]) ?_ 0 _ rfl; (with_reducible repeat (first | apply bN | apply bD | apply bA)); exact BK543.out) hb)) (sB HB hb))))); clear HO539 HO542 BK535 BK536 BK543 HB; obtain ⟨HO539, HO542, BK535, BK536, BK543, HB⟩ := n_; (try clear hb)))
  go_loopg [4] k (fun kq v4 w' => ∃ (x4_1 : Int) (x544000_1 : List ByteArray) (u544000 : Value), v4 = .int .i64 x4_1 ∧ Aside0 (spec_Flush.l0 kq x4_1 l0_0 l0_1 x544000_1 t540 = some (r1, r2)) ∧ Aside0 (kq ≤ k) ∧ Aside0 (Kd.R Kd.string 9 w' w.heap.size (fun _ => True) u544000 x544000_1) ∧ Aside0 (Kd.R k65 65 w' w.heap.size (fun _ => True) (.slice Ao15 t540.length co15) t540) ∧ Aside0 (w'.heap[gb535]? = some (.cells #[(.slice A0_0 l0_0.length c0_0), (.slice A0_1 l0_1.length c0_1)] 30 (0, 0))) ∧ Aside0 (w'.heap[gb536]? = some (.cells #[(.slice none 0 0), (.slice none 0 0)] 30 (0, 0))) ∧ Aside0 (w'.heap[gb543]? = some (.cells #[u544000, (.slice Ao15 t540.length co15)] 30 (0, 0))) ∧ Aside0 (Below w.heap.size w w'))
  case atStart => exact ⟨(0), (t537), (.slice Ao11 t537.length co11), (by first | rfl | (simp; done) | (simp [*]; done) | (simp; exact (by intro l_; cases l_ <;> rfl : ∀ l_ : List UInt8, l_.isEmpty = !(l_ != [])) _)), H', ⟨Nat.le_refl _⟩, ⟨rP HO539.out⟩, ⟨rP HO542.out⟩, ⟨kP BK535⟩, ⟨kP BK536⟩, ⟨kP BK543⟩, ⟨bB⟩⟩
  case round =>
   clear H'
   try clear c1
   try clear p2
   try clear c3
   try clear c4
   try clear c7
   try clear c12
   try clear c13
   try clear c16
   try clear hcz14_0
   try clear hcz14_1
   try clear hcz16_0
   try clear hcz16_1
   try clear hcz8_0
   try clear hcz8_1
   try clear hfz14_0
   try clear hfz14_1
   try clear hfz16_0
   try clear hfz16_1
   try clear hfz8_0
   try clear hfz8_1
   obtain ⟨x4_1, x544000_1, u544000, rfl, HA, HK1, HO_544000, HO_544001, BK535, BK536, BK543, HB⟩ := hrel
   cases gk with
   | zero => exact absurd HA.out (by simp [spec_Flush.l0])
   | succ k1 =>
    have H := HA.out
    clear HA
    simp only [spec_Flush.l0] at H
    by_cases c18 : x4_1 < (l0_1.length : Int)
    ·rw [if_pos c18] at H
     have c18b0 : decide (x4_1 < (l0_1.length : Int)) = true := decide_eq_true c18
     clear c18
     by_cases c19 : 0 ≤ x4_1
     ·rw [if_pos c19] at H
      have c19b0 : decide (0 ≤ x4_1) = true := decide_eq_true c19
      clear c19
      by_cases c20 : 0 ≤ ((rd_T65 l0_1 x4_1).f0)
      ·rw [if_pos c20] at H
       have c20b0 : decide (0 ≤ ((rd_T65 l0_1 x4_1).f0)) = true := decide_eq_true c20
       clear c20
       by_cases c21 : ((rd_T65 l0_1 x4_1).f0) < (x544000_1.length : Int)
       ·rw [if_pos c21] at H
        have c21b0 : decide (((rd_T65 l0_1 x4_1).f0) < (x544000_1.length : Int)) = true := decide_eq_true c21
        clear c21
        obtain ⟨y547, hy547⟩ : ∃ y_ : List ByteArray, y_ = (x544000_1.set (((rd_T65 l0_1 x4_1).f0) : Int).toNat ((rd_T65 l0_1 x4_1).f1)) := ⟨_, rfl⟩
        replace H : (spec_Flush.l0 k1 (wrap64 (x4_1 + 1)) l0_0 l0_1 y547 t540) = some (r1, r2) := bQ hy547 H
        have Ny547 := aM hy547
        clear hy547
        have H' := aM H
        clear H
        have hnb23 := NB535_536.out
        have hnc23 := NB536_535.out
        have hnb24 := NB535_543.out
        have hnc24 := NB543_535.out
        have hcz25_0 := cZ0 BK535
        have hcz25_1 := cZ1 BK535
        have hfz25_0 := fZ BK535 0
        have hfz25_1 := fZ BK535 1
        try go_wp2
        have n_ := aI (aM (Kd.R_drew HO_544000.out)) (aI (aM (Kd.R_drew HO_544001.out)) (aI (aM (blk_drew BK535.out)) (aI (aM (blk_drew BK536.out)) (aI (aM (blk_drew BK543.out)) (aM (below_drew1 HB.out))))))
        clear HO_544000 HO_544001 BK535 BK536 BK543 HB
        obtain ⟨HO_544000, HO_544001, BK535, BK536, BK543, HB⟩ := n_
        have p545 : 0 ≤ (x4_1 : Int) := dT
        have q545 : x4_1 < (l0_1.length : Int) := dT
        obtain ⟨ad545, e545, hx545_0, hx545_1⟩ := at_T65 HR0_1.out x4_1 p545 q545
        have hw545_1 := hx545_1
        have hw545_0 := hx545_0
        cases e545
        replace hx545_0 := (HB.out.cell (World.block_lt_of_cell? w _ hx545_0)).trans hx545_0
        replace hx545_1 := (HB.out.cell (World.block_lt_of_cell? w _ hx545_1)).trans hx545_1
        replace p545 := eq_true p545
        replace q545 := eq_true q545
        have p546 : 0 ≤ (x4_1 : Int) := dT
        have q546 : x4_1 < (l0_1.length : Int) := dT
        obtain ⟨ad546, e546, hx546_0, hx546_1⟩ := at_T65 HR0_1.out x4_1 p546 q546
        have hw546_1 := hx546_1
        have hw546_0 := hx546_0
        obtain rfl : ad545 = ad546 := (by injection e546)
        replace hx546_0 := (HB.out.cell (World.block_lt_of_cell? w _ hx546_0)).trans hx546_0
        replace hx546_1 := (HB.out.cell (World.block_lt_of_cell? w _ hx546_1)).trans hx546_1
        replace p546 := eq_true p546
        replace q546 := eq_true q546
        have p22 : 0 ≤ (((rd_T65 l0_1 x4_1).f0) : Int) := dT
        have q22 : (((rd_T65 l0_1 x4_1).f0) : Int) < ((x544000_1.length : Int) : Int) := dT
        obtain ⟨go22, co22, eo22, gb22, gl22, cl22, HG22⟩ := Kd.R_form HO_544000.out (by omega)
        (first | cases eo22 | (injection eo22 with ea_ en_ ec_; (first | subst ea_ | (injection ea_ with ea_; subst ea_)); subst ec_; clear en_))
        have GB22 := aM gb22
        have GG22 := aM HG22
        clear gb22 gl22 HG22
        obtain ⟨hx22_0, hf22_0⟩ := Kd.R_celln (⟨#[]⟩ : ByteArray) HO_544000.out (((rd_T65 l0_1 x4_1).f0) : Int) p22 q22
        replace p22 := eq_true p22
        replace q22 := eq_true q22
        have HP27 := Kd.R_putn HO_544000.out (((rd_T65 l0_1 x4_1).f0) : Int) ((rd_T65 l0_1 x4_1).f1)
        rw [← Ny547.out] at HP27
        have HQ27 := aM HP27
        clear HP27
        refine start_ (n := 16) (S := fun w' => w'.cell? ⟨gb543, 0, none⟩ = some (.slice (some ⟨go22, 0, none⟩) x544000_1.length co22) ∧ w'.cell? ⟨gb543, 1, none⟩ = some (.slice Ao15 t540.length co15) ∧ w'.cell? ⟨gb535, 0, none⟩ = some (.slice A0_0 l0_0.length c0_0) ∧ w'.cell? ⟨gb535, 1, none⟩ = some (.slice (some ad545) l0_1.length c0_1) ∧ w'.cell? (ad545.add ((x4_1).toNat * 2)) = some (.int .i64 ((rd_T65 l0_1 x4_1).f0)) ∧ w'.cell? ⟨(ad545.add ((x4_1).toNat * 2)).block, (ad545.add ((x4_1).toNat * 2)).off + 1, none⟩ = some (.string ((rd_T65 l0_1 x4_1).f1)) ∧ w'.cell? (ad545.add ((x4_1).toNat * 2)) = some (.int .i64 ((rd_T65 l0_1 x4_1).f0)) ∧ w'.cell? ⟨(ad545.add ((x4_1).toNat * 2)).block, (ad545.add ((x4_1).toNat * 2)).off + 1, none⟩ = some (.string ((rd_T65 l0_1 x4_1).f1))) (ds := [15]) #[tF, tF, tF, tF, tF, tF, tF, tF, tF, tF, tF, tF, tF, tF, tF, tF] (by kernel_rfl) rfl rfl ⟨(blk_cell BK543.out 0).trans rfl, (blk_cell BK543.out 1).trans rfl, (blk_cell BK535.out 0).trans rfl, (blk_cell BK535.out 1).trans rfl, ((HB.out.cell (World.block_lt_of_cell? w _ hw545_0)).trans hw545_0), ((HB.out.cell (World.block_lt_of_cell? w _ hw545_1)).trans hw545_1), ((HB.out.cell (World.block_lt_of_cell? w _ hw546_0)).trans hw546_0), ((HB.out.cell (World.block_lt_of_cell? w _ hw546_1)).trans hw546_1)⟩ (fun hHeld => ?_); refine with_tabW spec_Flush.tab7 spec_Flush.bits7 (fun HT_ HW_ => ?_)
        generalize wr.drew = w26 at HO_544000 HO_544001 BK535 BK536 BK543 HB GG22 HQ27 hf22_0 hx22_0 hx545_0 hx545_1 hx546_0 hx546_1 hHeld ⊢
        refine pY 0 18 #[tT, tF, tF, tF, tF, tF, tF, tF, tF, tF, tF, tF, tF, tF, tF, tF] ?_
        refine pY 2 20 #[tT, tF, tT, tF, tF, tF, tF, tF, tF, tF, tF, tF, tF, tF, tF, tF] ?_
        refine pY 4 22 #[tT, tF, tT, tF, tT, tF, tF, tF, tF, tF, tF, tF, tF, tF, tF, tF] ?_
        refine pY 8 26 #[tT, tF, tT, tF, tT, tF, tF, tF, tT, tF, tF, tF, tF, tF, tF, tF] ?_
        refine pY 10 28 #[tT, tF, tT, tF, tT, tF, tF, tF, tT, tF, tT, tF, tF, tF, tF, tF] ?_
        refine take_ (i := 1) (N := some 19) (v := ?_) (a' := ?_) #[tT, tT, tT, tF, tT, tF, tF, tF, tT, tF, tT, tF, tF, tF, tF, tF] rfl rfl (take_ofW HT_.out HW_.out (by kernel_rfl)) (fun _ _ _ h => h) (Or.inl ⟨by rfl, ?_⟩) hHeld ?_ ?_
        rotate_left
        ·rintro w' ⟨s0, s1, s2, s3, s4, s5, s6, s7⟩
         go_simp
         with_reducible rfl
        rotate_left
        ·simp only [Act.put, List.setIfInBounds_toArray, List.set_cons_zero, List.set_cons_succ, i64_w, i32_w]
         rfl
        refine take_ (i := 3) (N := some 21) (v := ?_) (a' := ?_) #[tT, tT, tT, tT, tT, tF, tF, tF, tT, tF, tT, tF, tF, tF, tF, tF] rfl rfl (take_ofW HT_.out HW_.out (by kernel_rfl)) (fun _ _ _ h => h) (Or.inl ⟨by rfl, ?_⟩) hHeld ?_ ?_
        rotate_left
        ·rintro w' ⟨s0, s1, s2, s3, s4, s5, s6, s7⟩
         go_simp
         with_reducible rfl
        rotate_left
        ·simp only [Act.put, List.setIfInBounds_toArray, List.set_cons_zero, List.set_cons_succ, i64_w, i32_w]
         rfl
        refine pY 5 23 #[tT, tT, tT, tT, tT, tT, tF, tF, tT, tF, tT, tF, tF, tF, tF, tF] ?_
        refine pY 6 24 #[tT, tT, tT, tT, tT, tT, tT, tF, tT, tF, tT, tF, tF, tF, tF, tF] ?_
        refine take_ (i := 7) (N := some 25) (v := ?_) (a' := ?_) #[tT, tT, tT, tT, tT, tT, tT, tT, tT, tF, tT, tF, tF, tF, tF, tF] rfl rfl (take_ofW HT_.out HW_.out (by kernel_rfl)) (fun _ _ _ h => h) (Or.inl ⟨by rfl, ?_⟩) hHeld ?_ ?_
        rotate_left
        ·rintro w' ⟨s0, s1, s2, s3, s4, s5, s6, s7⟩
         go_simp
         with_reducible rfl
        rotate_left
        ·simp only [Act.put, List.setIfInBounds_toArray, List.set_cons_zero, List.set_cons_succ, i64_w, i32_w]
         rfl
        refine take_ (i := 9) (N := some 27) (v := ?_) (a' := ?_) #[tT, tT, tT, tT, tT, tT, tT, tT, tT, tT, tT, tF, tF, tF, tF, tF] rfl rfl (take_ofW HT_.out HW_.out (by kernel_rfl)) (fun _ _ _ h => h) (Or.inl ⟨by rfl, ?_⟩) hHeld ?_ ?_
        rotate_left
        ·rintro w' ⟨s0, s1, s2, s3, s4, s5, s6, s7⟩
         go_simp
         with_reducible rfl
        rotate_left
        ·simp only [Act.put, List.setIfInBounds_toArray, List.set_cons_zero, List.set_cons_succ, i64_w, i32_w]
         rfl
        refine pY 11 29 #[tT, tT, tT, tT, tT, tT, tT, tT, tT, tT, tT, tT, tF, tF, tF, tF] ?_
        refine pY 12 30 #[tT, tT, tT, tT, tT, tT, tT, tT, tT, tT, tT, tT, tT, tF, tF, tF] ?_
        refine take_ (i := 13) (N := some 31) (v := ?_) (a' := ?_) #[tT, tT, tT, tT, tT, tT, tT, tT, tT, tT, tT, tT, tT, tT, tF, tF] rfl rfl (take_ofW HT_.out HW_.out (by kernel_rfl)) (fun _ _ _ h => h) (Or.inl ⟨by rfl, ?_⟩) hHeld ?_ ?_
        rotate_left
        ·rintro w' ⟨s0, s1, s2, s3, s4, s5, s6, s7⟩
         go_simp
         with_reducible rfl
        rotate_left
        ·simp only [Act.put, List.setIfInBounds_toArray, List.set_cons_zero, List.set_cons_succ, i64_w, i32_w]
         rfl
        refine pY 14 32 #[tT, tT, tT, tT, tT, tT, tT, tT, tT, tT, tT, tT, tT, tT, tT, tF] ?_
        refine last_ (i := 15) (N := none) #[tT, tT, tT, tT, tT, tT, tT, tT, tT, tT, tT, tT, tT, tT, tT, tT] rfl rfl (one_of HT_.out (by kernel_rfl)) (by decide) (fun K hK => ?_)
        refine skip_ (w1 := ?_) (by rfl) rfl ?_ ?_
        rotate_left
        ·go_simp
         rfl
        refine hK.out _ _ ?_
        clear hK K
        refine done_ (done_of HT_.out (by kernel_rfl)) ?_
        try go_wp2
        go_roundg k1
        case measure => have := HK1.out; omega
        case rel => exact ⟨(wrap64 (x4_1 + 1)), (y547), (.slice (some ⟨go22, 0, none⟩) x544000_1.length co22), (by first | rfl | (simp; done) | (simp [*]; done) | (simp; exact (by intro l_; cases l_ <;> rfl : ∀ l_ : List UInt8, l_.isEmpty = !(l_ != [])) _)), H', ⟨by have := HK1.out; omega⟩, ⟨rP HQ27.out⟩, ⟨rP (Kd.R_mono (Kd.R_far (p := ⟨go22, (((rd_T65 l0_1 x4_1).f0) : Int).toNat, none⟩) (Kd.R_types HO_544001.out GG22.out (by decide)) (fun _ hk => hk.2) (.string ((rd_T65 l0_1 x4_1).f1))) (fun _ hk => trivial))⟩, ⟨by (with_reducible repeat (first | apply bN | apply bD | apply bA)); refine blk_far ?_ (by have h_ := Kd.R_ne HO_544000.out BK535.out (by decide); intro e_; exact h_ (by rw [e_]; rfl)) _; (with_reducible repeat (first | apply bN | apply bD | apply bA)); exact BK535.out⟩, ⟨by (with_reducible repeat (first | apply bN | apply bD | apply bA)); refine blk_far ?_ (by have h_ := Kd.R_ne HO_544000.out BK536.out (by decide); intro e_; exact h_ (by rw [e_]; rfl)) _; (with_reducible repeat (first | apply bN | apply bD | apply bA)); exact BK536.out⟩, ⟨by (with_reducible repeat (first | apply bN | apply bD | apply bA)); refine blk_far ?_ (by have h_ := Kd.R_ne HO_544000.out BK543.out (by decide); intro e_; exact h_ (by rw [e_]; rfl)) _; (with_reducible repeat (first | apply bN | apply bD | apply bA)); exact BK543.out⟩, ⟨bB⟩⟩
       ·rw [if_neg c21] at H
        exact absurd H (by simp)
      ·rw [if_neg c20] at H
       exact absurd H (by simp)
     ·rw [if_neg c19] at H
      exact absurd H (by simp)
    ·rw [if_neg c18] at H
     have c18b0 : decide (x4_1 < (l0_1.length : Int)) = false := decide_eq_false c18
     clear c18
     simp only [Option.some.injEq, Prod.mk.injEq] at H
     obtain ⟨rfl, rfl⟩ := H
     have hnb28 := NB535_536.out
     have hnc28 := NB536_535.out
     have hnb29 := NB535_543.out
     have hnc29 := NB543_535.out
     have hcz30_0 := cZ0 BK535
     have hcz30_1 := cZ1 BK535
     have hfz30_0 := fZ BK535 0
     have hfz30_1 := fZ BK535 1
     have hnb31 := NB543_536.out
     have hnc31 := NB536_543.out
     have hcz32_0 := cZ0 BK543
     have hcz32_1 := cZ1 BK543
     have hfz32_0 := fZ BK543 0
     have hfz32_1 := fZ BK543 1
     obtain ⟨Ao33, co33, eo33⟩ := Kd.R_slice HO_544000.out
     subst eo33
     have hcz34_0 := cZ0 BK536
     have hcz34_1 := cZ1 BK536
     have hfz34_0 := fZ BK536 0
     have hfz34_1 := fZ BK536 1
     go_wp2
     refine bodyPost_ret (results_cell_row rfl _ _ gb536 30 #[.slice Ao33 x544000_1.length co33, .slice none 0 0] (0, 0) _ rfl (by (with_reducible repeat (first | apply bN | apply bD | apply bA)); refine blk_put (cs := #[.slice Ao33 x544000_1.length co33, .slice none 0 0]) ?_ 1 _ rfl; (with_reducible repeat (first | apply bN | apply bD | apply bA)); refine blk_put (cs := #[.slice none 0 0, .slice none 0 0]) ?_ 0 _ rfl; (with_reducible repeat (first | apply bN | apply bD | apply bA)); refine blk_far ?_ NB536_543.out _; (with_reducible repeat (first | apply bN | apply bD | apply bA)); exact BK536.out) Try.underlying30 rfl (by kernel_rfl)) rfl ?_
     exact ⟨_, _, eW, by (with_reducible repeat (first | apply Kd.R_alloc | apply Kd.R_drewN | apply Kd.R_drew)); exact Kd.R_mono (Kd.R_far (p := ⟨gb536, 1, none⟩) (Kd.R_far (p := ⟨gb536, 0, none⟩) (Kd.R_far (p := ⟨gb543, 1, none⟩) (Kd.R_types (Kd.R_types HO_544000.out BK543.out (by decide)) BK536.out (by decide)) (fun _ hk => hk.1.2) (.slice none 0 0)) (fun _ hk => hk.2) (.slice Ao33 x544000_1.length co33)) (fun _ hk => hk.2) (.slice none 0 0)) (fun _ hk => trivial), by first | exact Kd.R_nil _ _ _ _ _ | exact Kd.N_nil _ _ _ _ _ | exact Kd.V_nil _ _ _ _ _ | exact Kd.Q_nil _ _ _ _ _ | exact Kd.S_nil _ _ _ _ _, bB⟩
 replace c4 := Bool.eq_false_iff.mpr c4
 subst c4
 rw [if_neg (show ¬ (false = true) by decide)] at H
 simp only [Option.some.injEq, Prod.mk.injEq] at H
 obtain ⟨rfl, rfl⟩ := H
 go_enter Try.func31, Try.ntmps31
 go_wp2_with (first | ((with_reducible refine gate_dst (N := 1) rfl ?_); refine bE 1 #[.slice A0_0 l0_0.length c0_0, .slice A0_1 l0_1.length c0_1] 30 ?_; intro gb535 hg w35 hbox hb; have n_ := aI (sB HB hb) (aI (aM hbox) (aI (gE HB hg) (gE HB hg))); clear HB; obtain ⟨HB, BK535, GW535, GE535⟩ := n_; (try clear hb hbox hg)) | ((with_reducible refine gate_dst (N := 2) rfl ?_); refine bE 2 #[.slice none 0 0, .slice none 0 0] 30 ?_; intro gb536 hg w36 hbox hb; have n_ := aI (kB BK535 hb) (aI (sB HB hb) (aI (aM hbox) (aI (gE HB hg) (aI (gE HB hg) (aI (nL BK535 hg) (nG BK535 hg)))))); clear BK535 HB; obtain ⟨BK535, HB, BK536, GW536, GE536, NB535_536, NB536_535⟩ := n_; (try clear hb hbox hg); have hnb37 := NB535_536.out; have hnc37 := NB536_535.out; have hcz38_0 := cZ0 BK535; have hcz38_1 := cZ1 BK535; have hfz38_0 := fZ BK535 0; have hfz38_1 := fZ BK535 1) | ((with_reducible refine gate_callee (f := 75) rfl ?_); refine gL (some 6) Try.func75 #[.agg #[.slice A0_0 l0_0.length c0_0, .slice A0_1 l0_1.length c0_1]] ?_; (with_reducible refine (spec_l3Copy.calls _ _ l0_0 _ _ l0_1 t537 t540 _ ?side1 ?side2 ?side3 ?side4 A2.out).mono ?_); (case side1 => exact cS HR0_0 HB); (case side2 => exact HC0_0.out); (case side3 => exact cS HR0_1 HB); (case side4 => exact HC0_1.out); rintro e w39 ⟨v538, v541, rfl, ho0, ho1, hb⟩; refine ⟨_, rfl, ?_⟩; have n_ := aI (lR HB ho0) (aI (lR HB ho1) (aI (kB BK535 hb) (aI (kB BK536 hb) (sB HB hb)))); clear BK535 BK536 HB; obtain ⟨HO539, HO542, BK535, BK536, HB⟩ := n_; (try clear hb ho0 ho1)) | ((with_reducible refine gate_dst (N := 3) rfl ?_); refine bE 3 #[.slice none 0 0, .slice none 0 0] 30 ?_; intro gb543 hg w40 hbox hb; have n_ := aI (rB HO539 hb) (aI (rB HO542 hb) (aI (kB BK535 hb) (aI (kB BK536 hb) (aI (sB HB hb) (aI (aM hbox) (aI (gE HB hg) (aI (gE HB hg) (aI (nL BK535 hg) (aI (nG BK535 hg) (aI (nL BK536 hg) (nG BK536 hg))))))))))); clear HO539 HO542 BK535 BK536 HB; obtain ⟨HO539, HO542, BK535, BK536, HB, BK543, GW543, GE543, NB535_543, NB543_535, NB536_543, NB543_536⟩ := n_; (try clear hb hbox hg); obtain ⟨Ao41, co41, eo41⟩ := Kd.R_slice HO539.out; subst eo41; have hnb42 := NB543_535.out; have hnc42 := NB535_543.out; have hnb43 := NB543_536.out; have hnc43 := NB536_543.out; have hcz44_0 := cZ0 BK543; have hcz44_1 := cZ1 BK543; have hfz44_0 := fZ BK543 0; have hfz44_1 := fZ BK543 1; obtain ⟨Ao45, co45, eo45⟩ := Kd.R_slice HO542.out; subst eo45; have hcz46_0 := cZ0 BK535; have hcz46_1 := cZ1 BK535; have hfz46_0 := fZ BK535 0; have hfz46_1 := fZ BK535 1) | ((with_reducible refine gate_callee (f := 16) rfl ?_); refine gL (some 8) Try.func16 #[.agg #[.slice A0_0 l0_0.length c0_0, .slice A0_1 l0_1.length c0_1]] ?_; (with_reducible refine (spec_DiskOk.calls k _ _ l0_0 _ _ l0_1 false _ ?side1 ?side2 ?side3 ?side4 A3.out).mono ?_); (case side1 => exact cS HR0_0 HB); (case side2 => exact HC0_0.out); (case side3 => exact cS HR0_1 HB); (case side4 => exact HC0_1.out); rintro e w47 ⟨rfl, hb⟩; refine ⟨_, rfl, ?_⟩; have n_ := aI (aM (Kd.R_below (rP (Kd.R_mono (Kd.R_far (p := ⟨gb543, 1, none⟩) (Kd.R_far (p := ⟨gb543, 0, none⟩) (Kd.R_types HO539.out BK543.out (by decide)) (fun _ hk => hk.2) (.slice Ao41 t537.length co41)) (fun _ hk => hk.2) (.slice Ao45 t540.length co45)) (fun _ h_ => h_.1))) hb)) (aI (aM (Kd.R_below (rP (Kd.R_mono (Kd.R_far (p := ⟨gb543, 1, none⟩) (Kd.R_far (p := ⟨gb543, 0, none⟩) (Kd.R_types HO542.out BK543.out (by decide)) (fun _ hk => hk.2) (.slice Ao41 t537.length co41)) (fun _ hk => hk.2) (.slice Ao45 t540.length co45)) (fun _ h_ => h_.1))) hb)) (aI (kB BK535 hb) (aI (kB BK536 hb) (aI (aM (blk_below (g := gb543) (o := .cells #[.slice Ao41 t537.length co41, .slice Ao45 t540.length co45] 30 (0, 0)) (by (with_reducible repeat (first | apply bN | apply bD | apply bA)); refine blk_put (cs := #[.slice Ao41 t537.length co41, .slice none 0 0]) ?_ 1 _ rfl; (with_reducible repeat (first | apply bN | apply bD | apply bA)); refine blk_put (cs := #[.slice none 0 0, .slice none 0 0]) ?_ 0 _ rfl; (with_reducible repeat (first | apply bN | apply bD | apply bA)); exact BK543.out) hb)) (sB HB hb))))); clear HO539 HO542 BK535 BK536 BK543 HB; obtain ⟨HO539, HO542, BK535, BK536, BK543, HB⟩ := n_; (try clear hb); have hcz48_0 := cZ0 BK543; have hcz48_1 := cZ1 BK543; have hfz48_0 := fZ BK543 0; have hfz48_1 := fZ BK543 1; have hcz49_0 := cZ0 BK536; have hcz49_1 := cZ1 BK536; have hfz49_0 := fZ BK536 0; have hfz49_1 := fZ BK536 1))
 refine bodyPost_ret (results_cell_row rfl _ _ gb536 30 #[.slice Ao41 t537.length co41, .slice Ao45 t540.length co45] (0, 0) _ rfl (by (with_reducible repeat (first | apply bN | apply bD | apply bA)); refine blk_put (cs := #[.slice Ao41 t537.length co41, .slice none 0 0]) ?_ 1 _ rfl; (with_reducible repeat (first | apply bN | apply bD | apply bA)); refine blk_put (cs := #[.slice none 0 0, .slice none 0 0]) ?_ 0 _ rfl; (with_reducible repeat (first | apply bN | apply bD | apply bA)); exact BK536.out) Try.underlying30 rfl (by kernel_rfl)) rfl ?_
 exact ⟨_, _, eW, by (with_reducible repeat (first | apply Kd.R_alloc | apply Kd.R_drewN | apply Kd.R_drew)); exact Kd.R_mono (Kd.R_far (p := ⟨gb536, 1, none⟩) (Kd.R_far (p := ⟨gb536, 0, none⟩) (Kd.R_types HO539.out BK536.out (by decide)) (fun _ hk => hk.2) (.slice Ao41 t537.length co41)) (fun _ hk => hk.2) (.slice Ao45 t540.length co45)) (fun _ hk => trivial), by (with_reducible repeat (first | apply Kd.R_alloc | apply Kd.R_drewN | apply Kd.R_drew)); exact Kd.R_mono (Kd.R_far (p := ⟨gb536, 1, none⟩) (Kd.R_far (p := ⟨gb536, 0, none⟩) (Kd.R_types HO542.out BK536.out (by decide)) (fun _ hk => hk.2) (.slice Ao41 t537.length co41)) (fun _ hk => hk.2) (.slice Ao45 t540.length co45)) (fun _ hk => trivial), bB⟩

end Go.Proofs.Ytgmpdkefegofhaa.PFnRecovered
