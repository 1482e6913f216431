-- Written by xprint.py, a program of this session over the kit's print. Not trusted: Lean checks it.
import Derived.Test.YtgmpdkefegofhaaPFnRecoveredx0
import Derived.Test.YtgmpdkefegofhaaPFnRecoveredx2
import Derived.Test.YtgmpdkefegofhaaPFnRecoveredx10
namespace Go.Proofs.Ytgmpdkefegofhaa.PFnRecovered
open Go.RowKit Go.Proofs.YtgmpdkefegofhaaW.PrintWords Go.Proofs.YtgmpdkefegofhaaW.PrintLast Go.Proofs.YtgmpdkefegofhaaW.PrintMore
attribute [local go_sem] max2_int min2_int max_two min_two max_three min_three max_four min_four   -- for this text's walks alone
set_option linter.unusedVariables false
set_option linter.unusedSimpArgs false

/-! ### spec_DiskNew: function 124 -/
def spec_DiskNew.f (a0 : Int) : Option (List ByteArray × (List (S65)) × Bool) := (spec_l1In.f a0 1 120).bind fun t421 => (if t421 = true then (if 0 ≤ a0 then (if (a0 : Int).toNat ≤ 17592186044416 then (some ((List.replicate (a0 : Int).toNat (⟨#[]⟩ : ByteArray)), ([] : List (S65)), true)) else (none)) else (none)) else (some (([] : List ByteArray), ([] : List (S65)), false)))
set_option maxHeartbeats 8000000 in
set_option maxRecDepth 100000 in
theorem spec_DiskNew.calls (a0 : Int) (r1 : List ByteArray) (r2 : List (S65)) (r3 : Bool) (w : World) (h : spec_DiskNew.f a0 = some (r1, r2, r3)) :
  Calls Try.prog 124 #[.int .i64 a0] w fun e w' => ∃ v0_ v1_ : Value, e = .returned (.tuple #[.agg #[v0_, v1_], .bool r3]) ∧ Kd.R Kd.string 9 w' w.heap.size (fun _ => True) v0_ r1 ∧ Kd.R k65 65 w' w.heap.size (fun _ => True) v1_ r2 ∧ Below w.heap.size w w' := by
 have hu30 := Try.underlying30
 have HB := aM (Below.refl w.heap.size w)
 unfold spec_DiskNew.f at h
 have H := h
 clear h
 replace H := Option.bind_eq_some_iff.mp H
 obtain ⟨t421, A20, H⟩ := H
 try dsimp only at H
 have A2 := aM A20
 clear A20
 by_cases c3 : t421 = true
 ·subst c3
  rw [if_pos rfl] at H
  by_cases c4 : 0 ≤ a0
  ·rw [if_pos c4] at H
   have c4b0 := eq_true c4
   have c4b1 : decide (0 ≤ a0) = true := decide_eq_true c4
   clear c4
   by_cases c5 : (a0 : Int).toNat ≤ 17592186044416
   ·rw [if_pos c5] at H
    have c5b0 := eq_true c5
    have c5b1 : decide ((a0 : Int).toNat ≤ 17592186044416) = true := decide_eq_true c5
    clear c5
    obtain ⟨y422, hy422⟩ : ∃ y_ : List ByteArray, y_ = (List.replicate (a0 : Int).toNat (⟨#[]⟩ : ByteArray)) := ⟨_, rfl⟩
    replace H : (some (y422, ([] : List (S65)), true)) = some (r1, r2, r3) := bQ hy422 H
    have Ny422 := aM hy422
    clear hy422
    simp only [Option.some.injEq, Prod.mk.injEq] at H
    obtain ⟨rfl, rfl, rfl⟩ := H
    go_enter Try.func124, Try.ntmps124
    go_wp2_with (first | ((with_reducible refine gate_dst (N := 2) rfl ?_); refine bE 2 #[.slice none 0 0, .slice none 0 0] 30 ?_; intro gb420 hg w6 hbox hb; have n_ := aI (sB HB hb) (aI (aM hbox) (aI (gE HB hg) (gE HB hg))); clear HB; obtain ⟨HB, BK420, GW420, GE420⟩ := n_; (try clear hb hbox hg)) | ((with_reducible refine gate_callee (f := 69) rfl ?_); refine gL (some 5) Try.func69 #[.int .i64 a0, .int .i64 1, .int .i64 120] ?_; (with_reducible refine (spec_l1In.calls a0 1 120 true _ A2.out).mono ?_); rintro e w' ⟨rfl, ⟨nd, rfl⟩⟩; refine ⟨_, rfl, ?_⟩; (try (rw [drewN_self w6]; generalize hq_ : World.drewN w6 _ = w6; have n0_ : Aside0 (w6.heap[gb420]? = some (.cells #[.slice none 0 0, .slice none 0 0] 30 (0, 0))) := ⟨by rw [← hq_]; exact (kP BK420)⟩; have n1_ : Aside0 (Below w.heap.size w w6) := ⟨by rw [← hq_]; exact bB⟩; clear BK420 HB hq_; have BK420 := n0_; have HB := n1_; clear n0_ n1_))) | ((with_reducible refine gate_dst (N := 9) rfl ?_); refine Kd.R_make Kd.string _ 9 rfl (N := 9) rfl 22 _ _ rfl a0 rfl rfl Try.underlying22 (.string ⟨#[]⟩) 16 info9 rfl (by decide) (by omega) (⟨#[]⟩ : ByteArray) (ok := fun _ => True) (okp := fun _ => True) rfl (fun _ hk => hk) trivial (dT) (Nat.le_trans (Nat.mul_le_mul_right _ (dT : a0.toNat ≤ 17592186044416)) (by omega)) (Below.refl _ _) (Nat.le_refl _) ?_; intro v423 w7 ho8 hb hg_ hnew_; clear hg_ hnew_; (first | rw [← Ny422.out] at ho8 | (simp only [Int.reduceToNat] at ho8; rw [← Ny422.out] at ho8)); have n_ := aI (lR HB ho8) (aI (kB BK420 hb) (sB HB hb)); clear BK420 HB; obtain ⟨HO424, BK420, HB⟩ := n_; (try clear hb ho8); obtain ⟨Ao9, co9, eo9⟩ := Kd.R_slice HO424.out; subst eo9; have hcz10_0 := cZ0 BK420; have hcz10_1 := cZ1 BK420; have hfz10_0 := fZ BK420 0; have hfz10_1 := fZ BK420 1))
    refine bodyPost_ret (results_ct rfl _ _ gb420 30 #[.slice Ao9 y422.length co9, .slice none 0 0] (0, 0) _ rfl (by (with_reducible repeat (first | apply bN | apply bD | apply bA)); refine blk_put (cs := #[.slice Ao9 y422.length co9, .slice none 0 0]) ?_ 1 _ rfl; (with_reducible repeat (first | apply bN | apply bD | apply bA)); refine blk_put (cs := #[.slice none 0 0, .slice none 0 0]) ?_ 0 _ rfl; (with_reducible repeat (first | apply bN | apply bD | apply bA)); exact BK420.out) Try.underlying30 rfl (by kernel_rfl)) rfl ?_
    exact ⟨_, _, eW, by (with_reducible repeat (first | apply Kd.R_alloc | apply Kd.R_drewN | apply Kd.R_drew)); exact Kd.R_mono (Kd.R_far (p := ⟨gb420, 1, none⟩) (Kd.R_far (p := ⟨gb420, 0, none⟩) (Kd.R_types HO424.out BK420.out (by decide)) (fun _ hk => hk.2) (.slice Ao9 y422.length co9)) (fun _ hk => hk.2) (.slice none 0 0)) (fun _ hk => trivial), by first | exact Kd.R_nil _ _ _ _ _ | exact Kd.N_nil _ _ _ _ _ | exact Kd.V_nil _ _ _ _ _ | exact Kd.Q_nil _ _ _ _ _ | exact Kd.S_nil _ _ _ _ _, bB⟩
   rw [if_neg c5] at H
   exact absurd H (by simp)
  rw [if_neg c4] at H
  exact absurd H (by simp)
 replace c3 := Bool.eq_false_iff.mpr c3
 subst c3
 rw [if_neg (show ¬ (false = true) by decide)] at H
 simp only [Option.some.injEq, Prod.mk.injEq] at H
 obtain ⟨rfl, rfl, rfl⟩ := H
 go_enter Try.func124, Try.ntmps124
 go_wp2_with (first | ((with_reducible refine gate_dst (N := 2) rfl ?_); refine bE 2 #[.slice none 0 0, .slice none 0 0] 30 ?_; intro gb420 hg w11 hbox hb; have n_ := aI (sB HB hb) (aI (aM hbox) (aI (gE HB hg) (gE HB hg))); clear HB; obtain ⟨HB, BK420, GW420, GE420⟩ := n_; (try clear hb hbox hg)) | ((with_reducible refine gate_callee (f := 69) rfl ?_); refine gL (some 5) Try.func69 #[.int .i64 a0, .int .i64 1, .int .i64 120] ?_; (with_reducible refine (spec_l1In.calls a0 1 120 false _ A2.out).mono ?_); rintro e w' ⟨rfl, ⟨nd, rfl⟩⟩; refine ⟨_, rfl, ?_⟩; (try (rw [drewN_self w11]; generalize hq_ : World.drewN w11 _ = w11; have n0_ : Aside0 (w11.heap[gb420]? = some (.cells #[.slice none 0 0, .slice none 0 0] 30 (0, 0))) := ⟨by rw [← hq_]; exact (kP BK420)⟩; have n1_ : Aside0 (Below w.heap.size w w11) := ⟨by rw [← hq_]; exact bB⟩; clear BK420 HB hq_; have BK420 := n0_; have HB := n1_; clear n0_ n1_)); have hcz12_0 := cZ0 BK420; have hcz12_1 := cZ1 BK420; have hfz12_0 := fZ BK420 0; have hfz12_1 := fZ BK420 1))
 refine bodyPost_ret (results_ct rfl _ _ gb420 30 #[.slice none 0 0, .slice none 0 0] (0, 0) _ rfl (by (with_reducible repeat (first | apply bN | apply bD | apply bA)); refine blk_put (cs := #[.slice none 0 0, .slice none 0 0]) ?_ 1 _ rfl; (with_reducible repeat (first | apply bN | apply bD | apply bA)); refine blk_put (cs := #[.slice none 0 0, .slice none 0 0]) ?_ 0 _ rfl; (with_reducible repeat (first | apply bN | apply bD | apply bA)); exact BK420.out) Try.underlying30 rfl (by kernel_rfl)) rfl ?_
 exact ⟨_, _, eW, by first | exact Kd.R_nil _ _ _ _ _ | exact Kd.N_nil _ _ _ _ _ | exact Kd.V_nil _ _ _ _ _ | exact Kd.Q_nil _ _ _ _ _ | exact Kd.S_nil _ _ _ _ _, by first | exact Kd.R_nil _ _ _ _ _ | exact Kd.N_nil _ _ _ _ _ | exact Kd.V_nil _ _ _ _ _ | exact Kd.Q_nil _ _ _ _ _ | exact Kd.S_nil _ _ _ _ _, bB⟩

/-! ### spec_l3Right: function 119 -/
mutual
def spec_l3Right.l0 : Nat → Int → List Int → Int → Int → List ByteArray → List (S65) → Option (List ByteArray × (List (S65)) × Int × Int)
 | 0, _, _, _, _, _, _ => none
 | k + 1, x5, x1000, x1001, x1002, x440000, x440001 => if x5 < (x440000.length : Int) then ((spec_l3Data.f k x1000 x1001 x1002).bind fun bt440 => (if 0 ≤ x5 then (spec_l3Right.l0 k (wrap64 (x5 + 1)) x1000 bt440.2.1 bt440.2.2 (x440000.set (x5 : Int).toNat bt440.1) x440001) else (none))) else ((spec_l1Below.f x1000 x1001 x1002 6).bind fun bt444 => (spec_l3Right.l1 k bt444.1 0 x1000 bt444.2.1 bt444.2.2 x440000 x440001))
def spec_l3Right.l1 : Nat → Int → Int → List Int → Int → Int → List ByteArray → List (S65) → Option (List ByteArray × (List (S65)) × Int × Int)
 | 0, _, _, _, _, _, _, _ => none
 | k + 1, x6, x7, x1000, x1001, x1002, x440000, x440001 => if x7 < x6 then ((spec_l1Below.f x1000 x1001 x1002 (x440000.length : Int)).bind fun bt447 => ((spec_l3Data.f k x1000 bt447.2.1 bt447.2.2).bind fun bt450 => (if x440001.length < 5864062014805 then (spec_l3Right.l1 k x6 (wrap64 (x7 + 1)) x1000 bt450.2.1 bt450.2.2 x440000 (x440001 ++ [(⟨bt447.1, bt450.1⟩ : S65)])) else (none)))) else (some (x440000, x440001, x1001, x1002))
end
def spec_l3Right.f (k : Nat) (s0_0 : List Int) (s0_1 : Int) (s0_2 : Int) : Option (List ByteArray × (List (S65)) × Int × Int) := (spec_l1PickInt.f s0_0 s0_1 s0_2 (([1, 2, 5, 9] : List Int))).bind fun bt429 => ((spec_DiskNew.f bt429.1).bind fun bt432 => (spec_l3Right.l0 k 0 s0_0 bt429.2.1 bt429.2.2 bt432.1 bt432.2.1))
theorem spec_l3Right.mono_l : ∀ k, (∀ y0 y1 y2 y3 y4 y5, LeO (spec_l3Right.l0 k y0 y1 y2 y3 y4 y5) (spec_l3Right.l0 (k + 1) y0 y1 y2 y3 y4 y5)) ∧ (∀ y0 y1 y2 y3 y4 y5 y6, LeO (spec_l3Right.l1 k y0 y1 y2 y3 y4 y5 y6) (spec_l3Right.l1 (k + 1) y0 y1 y2 y3 y4 y5 y6))
 | 0 => ⟨fun _ _ _ _ _ _ r h => by simp [spec_l3Right.l0] at h, fun _ _ _ _ _ _ _ r h => by simp [spec_l3Right.l1] at h⟩
 | k + 1 => by
  obtain ⟨ih0, ih1⟩ := spec_l3Right.mono_l k
  refine ⟨?_, ?_⟩
  ·intro y0 y1 y2 y3 y4 y5
   unfold spec_l3Right.l0
   have m0_ := @spec_l3Data.mono
   exact mM
  ·intro y0 y1 y2 y3 y4 y5 y6
   unfold spec_l3Right.l1
   have m0_ := @spec_l3Data.mono
   exact mM
theorem spec_l3Right.mono : ∀ a0 a1 a2 k, LeO (spec_l3Right.f k a0 a1 a2) (spec_l3Right.f (k + 1) a0 a1 a2) := by
 intro a0 a1 a2 k
 obtain ⟨ih0, ih1⟩ := spec_l3Right.mono_l k
 unfold spec_l3Right.f
 have m0_ := @spec_l3Data.mono
 exact mM
def spec_l3Right.T10 : Bool × List (List Nat × List Nat) := (true, [([], []), ([0], [0]), ([], []), ([], []), ([3], [3]), ([4], [4]), ([2, 5], [2, 5]), ([], []), ([7, 6], [7]), ([6, 8], [6, 8]), ([9], [9]), ([1, 10, 8], [1, 10]), ([0, 1, 2, 3, 4, 5, 6, 7, 8, 9, 10, 11], []), ([12, 11, 11, 0, 1, 2, 3, 4, 5, 6, 7, 8, 9, 10, 11], [11, 12])])
def spec_l3Right.B10 : List Nat := [0, 1, 0, 0, 8, 24, 60, 0, 252, 508, 1020, 2047, 4095, 8191]
theorem spec_l3Right.tab10 : rtab .any (opsOf Try.f119 10) = spec_l3Right.T10 := by kernel_rfl
theorem spec_l3Right.bits10 : waitsOk spec_l3Right.T10.2 spec_l3Right.B10 = true := by kernel_rfl
set_option maxHeartbeats 8000000 in
set_option maxRecDepth 100000 in
theorem spec_l3Right.calls (k : Nat) (g : Nat) (s0_0 : List Int) (s0_1 : Int) (s0_2 : Int) (r1 : List ByteArray) (r2 : List (S65)) (r3 : Int) (r4 : Int) (w0 w : World) (hI : IsS123 w0 w g s0_0 s0_1 s0_2) (hB : Below w0.heap.size w0 w) (h : spec_l3Right.f k s0_0 s0_1 s0_2 = some (r1, r2, r3, r4)) :
  Calls Try.prog 119 #[.pointer (some ⟨g, 0, none⟩)] w fun e w' => ∃ v0_ v1_ : Value, e = .returned (.agg #[v0_, v1_]) ∧ Kd.R Kd.string 9 w' w.heap.size (fun _ => True) v0_ r1 ∧ Kd.R k65 65 w' w.heap.size (fun _ => True) v1_ r2 ∧ IsS123 w0 w' g s0_0 r3 r4 ∧ Below w0.heap.size w0 w' ∧ KeepBut w w' g none := by
 have hu30 := Try.underlying30
 have hu65 := Try.underlying65
 have HI0 := aM hI
 have GEg_ := aM (IsS123.ge hI)
 have HK := aM (KeepBut.refl w g none)
 have HL := aM hB.size
 clear hI
 have HW0 := aM hB.size
 have HB := aM hB
 clear hB
 unfold spec_l3Right.f at h
 have H := h
 clear h
 obtain ⟨y426, hy426⟩ : ∃ y_ : List Int, y_ = (([1, 2, 5, 9] : List Int)) := ⟨_, rfl⟩
 replace H : ((spec_l1PickInt.f s0_0 s0_1 s0_2 y426).bind fun bt429 => ((spec_DiskNew.f bt429.1).bind fun bt432 => (spec_l3Right.l0 k 0 s0_0 bt429.2.1 bt429.2.2 bt432.1 bt432.2.1))) = some (r1, r2, r3, r4) := bQ hy426 H
 have Ny426 := aM hy426
 clear hy426
 replace H := Option.bind_eq_some_iff.mp H
 obtain ⟨⟨t429, t430, t431⟩, A20, H⟩ := H
 try dsimp only at H
 have A2 := aM A20
 clear A20
 replace H := Option.bind_eq_some_iff.mp H
 obtain ⟨⟨t432, t435, t438⟩, A30, H⟩ := H
 try dsimp only at H
 have A3 := aM A30
 clear A30
 have H' := aM H
 clear H
 go_enter Try.func119, Try.ntmps119
 go_wp2_with (first | ((with_reducible refine gate_dst (N := 2) rfl ?_); refine bE 2 #[.slice none 0 0, .slice none 0 0] 30 ?_; intro gb425 hg w4 hbox hb; have n_ := aI (aM (IsS123.below (IsS123.iI HI0) hb)) (aI (aM (KeepBut.trans (bK HK) (KeepBut.of_below hb g none) (.inl rfl))) (aI (sB HB hb) (aI (aM hbox) (aI (aM ((by rw [hg]; exact (keep_size (w := w) (g := g) (row := none) (bK HK)) : w.heap.size ≤ gb425))) (aI (aM ((Nat.le_trans HW0.out (by rw [hg]; exact (keep_size (w := w) (g := g) (row := none) (bK HK)) : w.heap.size ≤ gb425) : w0.heap.size ≤ gb425))) (aI (aM ((by rw [hg]; exact Nat.ne_of_lt (IsS123.lt (show IsS123 w0 _ g s0_0 s0_1 s0_2 from IsS123.iI HI0)) : g ≠ gb425))) (aM ((by rw [hg]; exact Nat.ne_of_gt (IsS123.lt (show IsS123 w0 _ g s0_0 s0_1 s0_2 from IsS123.iI HI0)) : gb425 ≠ g))))))))); clear HI0 HK HB; obtain ⟨HI0, HK, HB, BK425, GW425, GE425, NB0_425, NB425_0⟩ := n_; (try clear hb hbox hg)) | ((with_reducible refine gate_dst (N := 10) rfl ?_); refine Kd.R_lit (Kd.int .i64) _ 3 ?hg (N := 10) ?hd (xs := ([1, 2, 5, 9] : List Int)) (inner := [.int .i64 1, .int .i64 2, .int .i64 5, .int .i64 9]) (ok := fun _ => True) (okp := fun _ => True) ?hr ?hp (fun _ hk => hk) trivial (Below.refl _ _) (Nat.le_refl _) (by simp) ?_; (case hd => rfl); (case hg => rfl); (case hr => first | (go_simp; done) | (go_simp; rfl)); (case hp => exact (Reps.one (show Kd.M (Kd.int .i64) _ _ _ 1 [.int .i64 1] from rfl) (Reps.one (show Kd.M (Kd.int .i64) _ _ _ 2 [.int .i64 2] from rfl) (Reps.one (show Kd.M (Kd.int .i64) _ _ _ 5 [.int .i64 5] from rfl) (Reps.one (show Kd.M (Kd.int .i64) _ _ _ 9 [.int .i64 9] from rfl) (Reps.none _ _)))))); intro v427 w5 ho6 hb hg_ hnew_; clear hg_ hnew_; (first | rw [← Ny426.out] at ho6 | (simp only [Int.reduceToNat] at ho6; rw [← Ny426.out] at ho6)); have n_ := aI (aM (Kd.R_lower ho6 (keep_size (w := w) (g := g) (row := none) (bK HK)))) (aI (aM (IsS123.below (IsS123.iI HI0) hb)) (aI (kB BK425 hb) (aI (aM (KeepBut.trans (bK HK) (KeepBut.of_below hb g none) (.inl rfl))) (sB HB hb)))); clear HI0 BK425 HK HB; obtain ⟨HO428, HI0, BK425, HK, HB⟩ := n_; (try clear hb ho6); obtain ⟨Ao7, co7, eo7⟩ := Kd.R_slice HO428.out; subst eo7) | ((with_reducible refine gate_callee (f := 98) rfl ?_); refine gL (some 11) Try.func98 #[.pointer (some ⟨g, 0, none⟩), .slice Ao7 y426.length co7] ?_; (with_reducible refine (spec_l1PickInt.calls g s0_0 s0_1 s0_2 _ _ y426 t429 t430 t431 w0 _ ?side1 ?side2 ?side3 ?side4 ?side5 A2.out).mono ?_); (case side1 => exact IsS123.iI HI0); (case side2 => exact bB); (case side3 => exact cR HO428); (case side4 => exact (Kd.R_reads' HO428.out).2.1); (case side5 => exact far_slice (IsS123.own_ne HI0.out HO428.out (by decide))); rintro e w8 ⟨rfl, hi, hb, hk⟩; refine ⟨_, rfl, ?_⟩; have n_ := aI (aM (KeepBut.blk hk (g' := gb425) (o := .cells #[.slice none 0 0, .slice none 0 0] 30 (0, 0)) (kP BK425) NB425_0.out (by simp))) (aI (aM (Kd.R_mono (Kd.R_keep (IsS123.apart (show IsS123 w0 _ g s0_0 s0_1 s0_2 from IsS123.iI HI0) (rP HO428.out) (by decide)) hk (fun _ h => h.2)) (fun _ h => h.1))) (aI (aM (KeepBut.trans (bK HK) hk (.inl rfl))) (aI (aM (hb)) (aM (hi))))); clear BK425 HO428 HK HB HI0; obtain ⟨BK425, HO428, HK, HB, HI0⟩ := n_; (try clear hb hk hi)) | ((with_reducible refine gate_callee (f := 124) rfl ?_); refine gL (some 12) Try.func124 #[.int .i64 t429] ?_; (with_reducible refine (spec_DiskNew.calls t429 t432 t435 t438 _ A3.out).mono ?_); rintro e w9 ⟨v433, v436, rfl, ho0, ho1, hb⟩; refine ⟨_, rfl, ?_⟩; have n_ := aI (rB HO428 hb) (aI (aM (Kd.R_lower ho0 (keep_size (w := w) (g := g) (row := none) (bK HK)))) (aI (aM (Kd.R_lower ho1 (keep_size (w := w) (g := g) (row := none) (bK HK)))) (aI (aM (IsS123.below (IsS123.iI HI0) hb)) (aI (kB BK425 hb) (aI (aM (KeepBut.trans (bK HK) (KeepBut.of_below hb g none) (.inl rfl))) (sB HB hb)))))); clear HO428 HI0 BK425 HK HB; obtain ⟨HO428, HO434, HO437, HI0, BK425, HK, HB⟩ := n_; (try clear hb ho0 ho1)) | ((with_reducible refine gate_dst (N := 3) rfl ?_); refine bE 3 #[.slice none 0 0, .slice none 0 0] 30 ?_; intro gb439 hg w10 hbox hb; have n_ := aI (rB HO428 hb) (aI (rB HO434 hb) (aI (rB HO437 hb) (aI (aM (IsS123.below (IsS123.iI HI0) hb)) (aI (kB BK425 hb) (aI (aM (KeepBut.trans (bK HK) (KeepBut.of_below hb g none) (.inl rfl))) (aI (sB HB hb) (aI (aM hbox) (aI (aM ((by rw [hg]; exact (keep_size (w := w) (g := g) (row := none) (bK HK)) : w.heap.size ≤ gb439))) (aI (aM ((Nat.le_trans HW0.out (by rw [hg]; exact (keep_size (w := w) (g := g) (row := none) (bK HK)) : w.heap.size ≤ gb439) : w0.heap.size ≤ gb439))) (aI (nL BK425 hg) (aI (nG BK425 hg) (aI (aM ((by rw [hg]; exact Nat.ne_of_lt (IsS123.lt (show IsS123 w0 _ g s0_0 t430 t431 from IsS123.iI HI0)) : g ≠ gb439))) (aM ((by rw [hg]; exact Nat.ne_of_gt (IsS123.lt (show IsS123 w0 _ g s0_0 t430 t431 from IsS123.iI HI0)) : gb439 ≠ g))))))))))))))); clear HO428 HO434 HO437 HI0 BK425 HK HB; obtain ⟨HO428, HO434, HO437, HI0, BK425, HK, HB, BK439, GW439, GE439, NB425_439, NB439_425, NB0_439, NB439_0⟩ := n_; (try clear hb hbox hg); obtain ⟨Ao11, co11, eo11⟩ := Kd.R_slice HO434.out; subst eo11; have hnb12 := NB439_425.out; have hnc12 := NB425_439.out; have hnb13 := NB439_0.out; have hnc13 := NB0_439.out; have hcz14_0 := cZ0 BK439; have hcz14_1 := cZ1 BK439; have hfz14_0 := fZ BK439 0; have hfz14_1 := fZ BK439 1; obtain ⟨Ao15, co15, eo15⟩ := Kd.R_slice HO437.out; subst eo15))
 go_loopg [5] k (fun kq v5 w' => ∃ (x5_1 : Int) (x1001_1 : Int) (x1002_1 : Int) (x440000_1 : List ByteArray) (u440000 : Value), v5 = .int .i64 x5_1 ∧ Aside0 (spec_l3Right.l0 kq x5_1 s0_0 x1001_1 x1002_1 x440000_1 t435 = some (r1, r2, r3, r4)) ∧ Aside0 (kq ≤ k) ∧ Aside0 (Kd.R Kd.string 9 w' w.heap.size (fun _ => True) u440000 x440000_1) ∧ Aside0 (Kd.R k65 65 w' w.heap.size (fun _ => True) (.slice Ao15 t435.length co15) t435) ∧ Aside0 (w'.heap[gb425]? = some (.cells #[(.slice none 0 0), (.slice none 0 0)] 30 (0, 0))) ∧ Aside0 (w'.heap[gb439]? = some (.cells #[u440000, (.slice Ao15 t435.length co15)] 30 (0, 0))) ∧ Aside0 (IsS123 w0 w' g s0_0 x1001_1 x1002_1) ∧ Aside0 (KeepBut w w' g none) ∧ Aside0 (Below w0.heap.size w0 w'))
 case atStart => exact ⟨(0), (t430), (t431), (t432), (.slice Ao11 t432.length co11), (by first | rfl | (simp; done) | (simp [*]; done) | (simp; exact (by intro l_; cases l_ <;> rfl : ∀ l_ : List UInt8, l_.isEmpty = !(l_ != [])) _)), H', ⟨Nat.le_refl _⟩, ⟨rP (Kd.R_mono (Kd.R_far (p := ⟨gb439, 1, none⟩) (Kd.R_far (p := ⟨gb439, 0, none⟩) (Kd.R_types HO434.out BK439.out (by decide)) (fun _ hk => hk.2) (.slice Ao11 t432.length co11)) (fun _ hk => hk.2) (.slice Ao15 t435.length co15)) (fun _ hk => trivial))⟩, ⟨rP (Kd.R_mono (Kd.R_far (p := ⟨gb439, 1, none⟩) (Kd.R_far (p := ⟨gb439, 0, none⟩) (Kd.R_types HO437.out BK439.out (by decide)) (fun _ hk => hk.2) (.slice Ao11 t432.length co11)) (fun _ hk => hk.2) (.slice Ao15 t435.length co15)) (fun _ hk => trivial))⟩, ⟨kP BK425⟩, ⟨by (with_reducible repeat (first | apply bN | apply bD | apply bA)); refine blk_put (cs := #[.slice Ao11 t432.length co11, .slice none 0 0]) ?_ 1 _ rfl; (with_reducible repeat (first | apply bN | apply bD | apply bA)); refine blk_put (cs := #[.slice none 0 0, .slice none 0 0]) ?_ 0 _ rfl; (with_reducible repeat (first | apply bN | apply bD | apply bA)); exact BK439.out⟩, ⟨IsS123.iI HI0⟩, ⟨bK HK⟩, ⟨bB⟩⟩
 case round =>
  clear H'
  try clear c1
  try clear p2
  try clear c9
  try clear c11
  try clear c12
  try clear c13
  try clear hcz14_0
  try clear hcz14_1
  try clear hfz14_0
  try clear hfz14_1
  obtain ⟨x5_1, x1001_1, x1002_1, x440000_1, u440000, rfl, HA, HK1, HO_440000, HO_440001, BK425, BK439, HI0, HK, HB⟩ := hrel
  cases gk with
  | zero => exact absurd HA.out (by simp [spec_l3Right.l0])
  | succ k1 =>
   have H := HA.out
   clear HA
   simp only [spec_l3Right.l0] at H
   by_cases c16 : x5_1 < (x440000_1.length : Int)
   ·rw [if_pos c16] at H
    have c16b0 : decide (x5_1 < (x440000_1.length : Int)) = true := decide_eq_true c16
    clear c16
    replace H := Option.bind_eq_some_iff.mp H
    obtain ⟨⟨t440, t441, t442⟩, A170, H⟩ := H
    try dsimp only at H
    have A17 := aM A170
    clear A170
    by_cases c18 : 0 ≤ x5_1
    ·rw [if_pos c18] at H
     have c18b0 : decide (0 ≤ x5_1) = true := decide_eq_true c18
     clear c18
     obtain ⟨y443, hy443⟩ : ∃ y_ : List ByteArray, y_ = (x440000_1.set (x5_1 : Int).toNat t440) := ⟨_, rfl⟩
     replace H : (spec_l3Right.l0 k1 (wrap64 (x5_1 + 1)) s0_0 t441 t442 y443 t435) = some (r1, r2, r3, r4) := bQ hy443 H
     have Ny443 := aM hy443
     clear hy443
     have H' := aM H
     clear H
     have hnb20 := NB439_425.out
     have hnc20 := NB425_439.out
     have hnb21 := NB439_0.out
     have hnc21 := NB0_439.out
     have hcz22_0 := cZ0 BK439
     have hcz22_1 := cZ1 BK439
     have hfz22_0 := fZ BK439 0
     have hfz22_1 := fZ BK439 1
     obtain ⟨Ao23, co23, eo23⟩ := Kd.R_slice HO_440000.out
     subst eo23
     try go_wp2
     have n_ := aI (aM (Kd.R_drew HO_440000.out)) (aI (aM (Kd.R_drew HO_440001.out)) (aI (aM (blk_drew BK425.out)) (aI (aM (blk_drew BK439.out)) (aI (aM (IsS123.drew HI0.out)) (aI (aM (keep_drew HK.out)) (aM (below_drew1 HB.out)))))))
     clear HO_440000 HO_440001 BK425 BK439 HI0 HK HB
     obtain ⟨HO_440000, HO_440001, BK425, BK439, HI0, HK, HB⟩ := n_
     refine start_ (n := 7) (S := fun w' => w'.cell? ⟨gb439, 0, none⟩ = some (.slice Ao23 x440000_1.length co23) ∧ w'.cell? ⟨gb439, 1, none⟩ = some (.slice Ao15 t435.length co15)) (ds := [6]) #[tF, tF, tF, tF, tF, tF, tF] (by kernel_rfl) rfl rfl ⟨(blk_cell BK439.out 0).trans rfl, (blk_cell BK439.out 1).trans rfl⟩ (fun hHeld => ?_)
     generalize wr.drew = w24 at HO_440000 HO_440001 BK425 BK439 HI0 HK HB hHeld ⊢
     refine pure_ (i := 0) (N := some 22) (v := ?_) (a' := ?_) #[tT, tF, tF, tF, tF, tF, tF] rfl rfl (by kernel_rfl) (fun _ _ _ h => h) (Or.inl ⟨by rfl, ?_⟩) ?_ ?_
     rotate_left
     ·intro w'
      go_simp
      with_reducible rfl
     rotate_left
     ·simp only [Act.put, List.setIfInBounds_toArray, List.set_cons_zero, List.set_cons_succ, i64_w, i32_w]
      rfl
     refine pure_ (i := 2) (N := some 24) (v := ?_) (a' := ?_) #[tT, tF, tT, tF, tF, tF, tF] rfl rfl (by kernel_rfl) (fun _ _ _ h => h) (Or.inl ⟨by rfl, ?_⟩) ?_ ?_
     rotate_left
     ·intro w'
      go_simp
      with_reducible rfl
     rotate_left
     ·simp only [Act.put, List.setIfInBounds_toArray, List.set_cons_zero, List.set_cons_succ, i64_w, i32_w]
      rfl
     refine pure_ (i := 3) (N := some 25) (v := ?_) (a' := ?_) #[tT, tF, tT, tT, tF, tF, tF] rfl rfl (by kernel_rfl) (fun _ _ _ h => h) (Or.inl ⟨by rfl, ?_⟩) ?_ ?_
     rotate_left
     ·intro w'
      go_simp
      with_reducible rfl
     rotate_left
     ·simp only [Act.put, List.setIfInBounds_toArray, List.set_cons_zero, List.set_cons_succ, i64_w, i32_w]
      rfl
     refine take_ (i := 1) (N := some 23) (v := ?_) (a' := ?_) #[tT, tT, tT, tT, tF, tF, tF] rfl rfl (by kernel_rfl) (fun _ _ _ h => h) (Or.inl ⟨by rfl, ?_⟩) hHeld ?_ ?_
     rotate_left
     ·rintro w' ⟨s0, s1⟩
      go_simp
      with_reducible rfl
     rotate_left
     ·simp only [Act.put, List.setIfInBounds_toArray, List.set_cons_zero, List.set_cons_succ, i64_w, i32_w]
      rfl
     refine one_ (i := 4) (N := some 26) #[tT, tT, tT, tT, tT, tF, tF] rfl rfl (by kernel_rfl) (by decide) (fun K hK => ?_)
     refine goes_ Try.func96 (by kernel_rfl) rfl #[.pointer (some ⟨g, 0, none⟩)] (by rfl) rfl rfl (by (try simp only [List.map_toArray, List.map_cons, List.map_nil]); first | done | rfl | (simp only [List.length_drop, List.length_take]; rfl)) ?_
     with_reducible refine (spec_l3Data.calls k1 g s0_0 x1001_1 x1002_1 t440 t441 t442 w0 _ ?side1 ?side2 A17.out).mono ?_
     (case side1 => exact IsS123.iI HI0)
     (case side2 => exact bB)
     rintro e w25 ⟨rfl, hi, hb, hk⟩
     refine ⟨_, rfl, ?_⟩
     have n_ := aI (aM (Kd.R_mono (Kd.R_keep (IsS123.apart (show IsS123 w0 _ g s0_0 x1001_1 x1002_1 from IsS123.iI HI0) (rP HO_440000.out) (by decide)) hk (fun _ h => h.2)) (fun _ h => h.1))) (aI (aM (Kd.R_mono (Kd.R_keep (IsS123.apart (show IsS123 w0 _ g s0_0 x1001_1 x1002_1 from IsS123.iI HI0) (rP HO_440001.out) (by decide)) hk (fun _ h => h.2)) (fun _ h => h.1))) (aI (aM (KeepBut.blk hk (g' := gb425) (o := .cells #[.slice none 0 0, .slice none 0 0] 30 (0, 0)) (kP BK425) NB425_0.out (by simp))) (aI (aM (KeepBut.blk hk (g' := gb439) (o := .cells #[.slice Ao23 x440000_1.length co23, .slice Ao15 t435.length co15] 30 (0, 0)) (kP BK439) NB439_0.out (by simp))) (aI (aM (KeepBut.trans (bK HK) hk (.inl rfl))) (aI (aM (hb)) (aM (hi)))))))
     clear HO_440000 HO_440001 BK425 BK439 HK HB HI0
     obtain ⟨HO_440000, HO_440001, BK425, BK439, HK, HB, HI0⟩ := n_
     (try clear hb)
     (try clear hb2)
     (try clear hk)
     (try clear hi)
     have p19 : 0 ≤ (x5_1 : Int) := dT
     have q19 : (x5_1 : Int) < ((x440000_1.length : Int) : Int) := dT
     obtain ⟨go19, co19, eo19, gb19, gl19, cl19, HG19⟩ := Kd.R_form HO_440000.out (by omega)
     (first | cases eo19 | (injection eo19 with ea_ en_ ec_; (first | subst ea_ | (injection ea_ with ea_; subst ea_)); subst ec_; clear en_))
     have GB19 := aM gb19
     have GG19 := aM HG19
     clear gb19 gl19 HG19
     obtain ⟨hx19_0, hf19_0⟩ := Kd.R_celln (⟨#[]⟩ : ByteArray) HO_440000.out (x5_1 : Int) p19 q19
     replace p19 := eq_true p19
     replace q19 := eq_true q19
     have HN0_go19 := aM (show g ≠ go19 from by have h_ := IsS123.own_ne HI0.out HO_440000.out (by decide); intro e_; exact h_ (by rw [e_]; rfl))
     have HP26 := Kd.R_putn HO_440000.out (x5_1 : Int) t440
     rw [← Ny443.out] at HP26
     have HQ26 := aM HP26
     clear HP26
     refine hK.out _ _ ⟨(blk_cell BK439.out 0).trans rfl, (blk_cell BK439.out 1).trans rfl⟩ (fun hHeld => ?_)
     clear hK K
     refine norm_ (a' := ?_) ?_ ?_
     rotate_left
     ·show Act.put _ (some 26) _ = _
      simp only [Act.put, List.setIfInBounds_toArray, List.set_cons_zero, List.set_cons_succ, i64_w, i32_w]
      rfl
     refine pure_ (i := 5) (N := some 27) (v := ?_) (a' := ?_) #[tT, tT, tT, tT, tT, tT, tF] rfl rfl (by kernel_rfl) (fun _ _ _ h => h) (Or.inl ⟨by rfl, ?_⟩) ?_ ?_
     rotate_left
     ·intro w'
      go_simp
      with_reducible rfl
     rotate_left
     ·simp only [Act.put, List.setIfInBounds_toArray, List.set_cons_zero, List.set_cons_succ, i64_w, i32_w]
      rfl
     refine last_ (i := 6) (N := none) #[tT, tT, tT, tT, tT, tT, tT] rfl rfl (by kernel_rfl) (by decide) (fun K hK => ?_)
     refine skip_ (w1 := ?_) (by rfl) rfl ?_ ?_
     rotate_left
     ·go_simp
      rfl
     refine hK.out _ _ ?_
     clear hK K
     refine done_ (by kernel_rfl) ?_
     try go_wp2
     go_roundg k1
     case measure => have := HK1.out; omega
     case rel => exact ⟨(wrap64 (x5_1 + 1)), (t441), (t442), (y443), (.slice (some ⟨go19, 0, none⟩) x440000_1.length co23), (by first | rfl | (simp; done) | (simp [*]; done) | (simp; exact (by intro l_; cases l_ <;> rfl : ∀ l_ : List UInt8, l_.isEmpty = !(l_ != [])) _)), H', ⟨by have := HK1.out; omega⟩, ⟨rP HQ26.out⟩, ⟨rP (Kd.R_mono (Kd.R_far (p := ⟨go19, (x5_1 : Int).toNat, none⟩) (Kd.R_types HO_440001.out GG19.out (by decide)) (fun _ hk => hk.2) (.string t440)) (fun _ hk => trivial))⟩, ⟨by (with_reducible repeat (first | apply bN | apply bD | apply bA)); refine blk_far ?_ (by have h_ := Kd.R_ne HO_440000.out BK425.out (by decide); intro e_; exact h_ (by rw [e_]; rfl)) _; (with_reducible repeat (first | apply bN | apply bD | apply bA)); exact BK425.out⟩, ⟨by (with_reducible repeat (first | apply bN | apply bD | apply bA)); refine blk_far ?_ (by have h_ := Kd.R_ne HO_440000.out BK439.out (by decide); intro e_; exact h_ (by rw [e_]; rfl)) _; (with_reducible repeat (first | apply bN | apply bD | apply bA)); exact BK439.out⟩, ⟨by repeat (first | (with_reducible first | exact HI0.out | apply IsS123.alloc | apply IsS123.drewN | apply IsS123.drew | apply IsS123.set_1 | apply IsS123.set_2 | refine IsS123.far ?_ HN0_go19.out _ | refine IsS123.far ?_ NB0_425.out _ | refine IsS123.far ?_ NB0_439.out _) | exact HI0.out)⟩, ⟨bK HK⟩, ⟨by repeat (first | (with_reducible first | exact HB.out | apply below_alloc | apply pw_below_drewN | apply below_drew1 | refine below_set ?_ (Nat.le_trans HL.out GB19.out) | refine below_set ?_ (IsS123.ge HI0.out) | refine below_set ?_ GE425.out | refine below_set ?_ GE439.out) | exact HB.out)⟩⟩
    ·rw [if_neg c18] at H
     exact absurd H (by simp)
   ·rw [if_neg c16] at H
    have c16b0 : decide (x5_1 < (x440000_1.length : Int)) = false := decide_eq_false c16
    clear c16
    replace H := Option.bind_eq_some_iff.mp H
    obtain ⟨⟨t444, t445, t446⟩, A270, H⟩ := H
    try dsimp only at H
    have A27 := aM A270
    clear A270
    have H' := aM H
    clear H
    have hnb28 := NB439_425.out
    have hnc28 := NB425_439.out
    have hnb29 := NB439_0.out
    have hnc29 := NB0_439.out
    have hcz30_0 := cZ0 BK439
    have hcz30_1 := cZ1 BK439
    have hfz30_0 := fZ BK439 0
    have hfz30_1 := fZ BK439 1
    obtain ⟨Ao31, co31, eo31⟩ := Kd.R_slice HO_440000.out
    subst eo31
    go_wp2_with (first | ((with_reducible refine gate_callee (f := 95) rfl ?_); refine gL (some 29) Try.func95 #[.pointer (some ⟨g, 0, none⟩), .int .i64 6] ?_; (with_reducible refine (spec_l1Below.calls g s0_0 x1001_1 x1002_1 6 t444 t445 t446 w0 _ ?side1 ?side2 A27.out).mono ?_); (case side1 => exact IsS123.iI HI0); (case side2 => exact bB); rintro e w32 ⟨rfl, hi, hb, hk⟩; refine ⟨_, rfl, ?_⟩; have n_ := aI (aM (Kd.R_mono (Kd.R_keep (IsS123.apart (show IsS123 w0 _ g s0_0 x1001_1 x1002_1 from IsS123.iI HI0) (rP HO_440000.out) (by decide)) hk (fun _ h => h.2)) (fun _ h => h.1))) (aI (aM (Kd.R_mono (Kd.R_keep (IsS123.apart (show IsS123 w0 _ g s0_0 x1001_1 x1002_1 from IsS123.iI HI0) (rP HO_440001.out) (by decide)) hk (fun _ h => h.2)) (fun _ h => h.1))) (aI (aM (KeepBut.blk hk (g' := gb425) (o := .cells #[.slice none 0 0, .slice none 0 0] 30 (0, 0)) (kP BK425) NB425_0.out (by simp))) (aI (aM (KeepBut.blk hk (g' := gb439) (o := .cells #[.slice Ao31 x440000_1.length co31, .slice Ao15 t435.length co15] 30 (0, 0)) (kP BK439) NB439_0.out (by simp))) (aI (aM (KeepBut.trans (bK HK) hk (.inl rfl))) (aI (aM (hb)) (aM (hi))))))); clear HO_440000 HO_440001 BK425 BK439 HK HB HI0; obtain ⟨HO_440000, HO_440001, BK425, BK439, HK, HB, HI0⟩ := n_; (try clear hb hk hi)))
    go_loopg [7] k1 (fun kq v7 w' => ∃ (x7_2 : Int) (x1001_2 : Int) (x1002_2 : Int) (x440001_2 : List (S65)) (u440001 : Value), v7 = .int .i64 x7_2 ∧ Aside0 (spec_l3Right.l1 kq t444 x7_2 s0_0 x1001_2 x1002_2 x440000_1 x440001_2 = some (r1, r2, r3, r4)) ∧ Aside0 (kq ≤ k1) ∧ Aside0 (Kd.R Kd.string 9 w' w.heap.size (fun _ => True) (.slice Ao31 x440000_1.length co31) x440000_1) ∧ Aside0 (Kd.R k65 65 w' w.heap.size (fun _ => True) u440001 x440001_2) ∧ Aside0 (w'.heap[gb425]? = some (.cells #[(.slice none 0 0), (.slice none 0 0)] 30 (0, 0))) ∧ Aside0 (w'.heap[gb439]? = some (.cells #[(.slice Ao31 x440000_1.length co31), u440001] 30 (0, 0))) ∧ Aside0 (IsS123 w0 w' g s0_0 x1001_2 x1002_2) ∧ Aside0 (KeepBut w w' g none) ∧ Aside0 (Below w0.heap.size w0 w'))
    case atStart => exact ⟨(0), (t445), (t446), (t435), (.slice Ao15 t435.length co15), (by first | rfl | (simp; done) | (simp [*]; done) | (simp; exact (by intro l_; cases l_ <;> rfl : ∀ l_ : List UInt8, l_.isEmpty = !(l_ != [])) _)), H', ⟨Nat.le_refl _⟩, ⟨rP HO_440000.out⟩, ⟨rP HO_440001.out⟩, ⟨kP BK425⟩, ⟨kP BK439⟩, ⟨IsS123.iI HI0⟩, ⟨bK HK⟩, ⟨bB⟩⟩
    case round =>
     clear H'
     try clear c1
     try clear p1
     try clear q1
     try clear hx1
     try clear hf1
     try clear c2
     try clear p2
     try clear p6
     try clear c9
     try clear c11
     try clear c12
     try clear c13
     try clear c16
     try clear c16b0
     try clear c18
     try clear c18b0
     try clear p19
     try clear q19
     try clear hx19
     try clear hf19
     try clear c20
     try clear c21
     try clear c28
     try clear c29
     try clear hcz14_0
     try clear hcz14_1
     try clear hcz22_0
     try clear hcz22_1
     try clear hcz30_0
     try clear hcz30_1
     try clear hfz14_0
     try clear hfz14_1
     try clear hfz22_0
     try clear hfz22_1
     try clear hfz30_0
     try clear hfz30_1
     try clear hx19_0
     try clear p19
     try clear p2
     try clear q19
     obtain ⟨x7_2, x1001_2, x1002_2, x440001_2, u440001, rfl, HA, HK2, HO_440000, HO_440001, BK425, BK439, HI0, HK, HB⟩ := hrel
     cases gk with
     | zero => exact absurd HA.out (by simp [spec_l3Right.l1])
     | succ k2 =>
      have H := HA.out
      clear HA
      simp only [spec_l3Right.l1] at H
      by_cases c33 : x7_2 < t444
      ·rw [if_pos c33] at H
       have c33b0 : decide (x7_2 < t444) = true := decide_eq_true c33
       clear c33
       replace H := Option.bind_eq_some_iff.mp H
       obtain ⟨⟨t447, t448, t449⟩, A340, H⟩ := H
       try dsimp only at H
       have A34 := aM A340
       clear A340
       replace H := Option.bind_eq_some_iff.mp H
       obtain ⟨⟨t450, t451, t452⟩, A350, H⟩ := H
       try dsimp only at H
       have A35 := aM A350
       clear A350
       by_cases c36 : x440001_2.length < 5864062014805
       ·rw [if_pos c36] at H
        have LMc36 := aM c36
        clear c36
        obtain ⟨y453, hy453⟩ : ∃ y_ : List (S65), y_ = (x440001_2 ++ [(⟨t447, t450⟩ : S65)]) := ⟨_, rfl⟩
        replace H : (spec_l3Right.l1 k2 t444 (wrap64 (x7_2 + 1)) s0_0 t451 t452 x440000_1 y453) = some (r1, r2, r3, r4) := bQ hy453 H
        have Ny453 := aM hy453
        clear hy453
        have H' := aM H
        clear H
        try go_wp2
        have n_ := aI (aM (Kd.R_drew HO_440000.out)) (aI (aM (Kd.R_drew HO_440001.out)) (aI (aM (blk_drew BK425.out)) (aI (aM (blk_drew BK439.out)) (aI (aM (IsS123.drew HI0.out)) (aI (aM (keep_drew HK.out)) (aM (below_drew1 HB.out)))))))
        clear HO_440000 HO_440001 BK425 BK439 HI0 HK HB
        obtain ⟨HO_440000, HO_440001, BK425, BK439, HI0, HK, HB⟩ := n_
        refine start_ (n := 14) (S := fun w' => w'.cell? ⟨gb439, 0, none⟩ = some (.slice Ao31 x440000_1.length co31) ∧ w'.cell? ⟨gb439, 1, none⟩ = some (u440001)) (ds := [13]) #[tF, tF, tF, tF, tF, tF, tF, tF, tF, tF, tF, tF, tF, tF] (by kernel_rfl) rfl rfl ⟨(blk_cell BK439.out 0).trans rfl, (blk_cell BK439.out 1).trans rfl⟩ (fun hHeld => ?_); refine with_tabW spec_l3Right.tab10 spec_l3Right.bits10 (fun HT_ HW_ => ?_)
        generalize wr.drew = w37 at HO_440000 HO_440001 BK425 BK439 HI0 HK HB hHeld ⊢
        refine pY 0 35 #[tT, tF, tF, tF, tF, tF, tF, tF, tF, tF, tF, tF, tF, tF] ?_
        refine pY 2 37 #[tT, tF, tT, tF, tF, tF, tF, tF, tF, tF, tF, tF, tF, tF] ?_
        refine pY 3 38 #[tT, tF, tT, tT, tF, tF, tF, tF, tF, tF, tF, tF, tF, tF] ?_
        refine pY 7 42 #[tT, tF, tT, tT, tF, tF, tF, tT, tF, tF, tF, tF, tF, tF] ?_
        refine take_ (i := 1) (N := some 36) (v := ?_) (a' := ?_) #[tT, tT, tT, tT, tF, tF, tF, tT, tF, tF, tF, tF, tF, tF] rfl rfl (take_ofW HT_.out HW_.out (by kernel_rfl)) (fun _ _ _ h => h) (Or.inl ⟨by rfl, ?_⟩) hHeld ?_ ?_
        rotate_left
        ·rintro w' ⟨s0, s1⟩
         go_simp
         with_reducible rfl
        rotate_left
        ·simp only [Act.put, List.setIfInBounds_toArray, List.set_cons_zero, List.set_cons_succ, i64_w, i32_w]
         rfl
        refine take_ (i := 4) (N := some 39) (v := ?_) (a' := ?_) #[tT, tT, tT, tT, tT, tF, tF, tT, tF, tF, tF, tF, tF, tF] rfl rfl (take_ofW HT_.out HW_.out (by kernel_rfl)) (fun _ _ _ h => h) (Or.inl ⟨by rfl, ?_⟩) hHeld ?_ ?_
        rotate_left
        ·rintro w' ⟨s0, s1⟩
         go_simp
         with_reducible rfl
        rotate_left
        ·simp only [Act.put, List.setIfInBounds_toArray, List.set_cons_zero, List.set_cons_succ, i64_w, i32_w]
         rfl
        refine pY 5 40 #[tT, tT, tT, tT, tT, tT, tF, tT, tF, tF, tF, tF, tF, tF] ?_
        refine one_ (i := 6) (N := some 41) #[tT, tT, tT, tT, tT, tT, tT, tT, tF, tF, tF, tF, tF, tF] rfl rfl (one_of HT_.out (by kernel_rfl)) (by decide) (fun K hK => ?_)
        refine goes_ Try.func95 (by kernel_rfl) rfl #[.pointer (some ⟨g, 0, none⟩), .int .i64 (x440000_1.length : Int)] (by rfl) rfl rfl (by (try simp only [List.map_toArray, List.map_cons, List.map_nil]); first | done | rfl | (simp only [List.length_drop, List.length_take]; rfl)) ?_
        with_reducible refine (spec_l1Below.calls g s0_0 x1001_2 x1002_2 (x440000_1.length : Int) t447 t448 t449 w0 _ ?side1 ?side2 A34.out).mono ?_
        (case side1 => exact IsS123.iI HI0)
        (case side2 => exact bB)
        rintro e w38 ⟨rfl, hi, hb, hk⟩
        refine ⟨_, rfl, ?_⟩
        have n_ := aI (aM (Kd.R_mono (Kd.R_keep (IsS123.apart (show IsS123 w0 _ g s0_0 x1001_2 x1002_2 from IsS123.iI HI0) (rP HO_440000.out) (by decide)) hk (fun _ h => h.2)) (fun _ h => h.1))) (aI (aM (Kd.R_mono (Kd.R_keep (IsS123.apart (show IsS123 w0 _ g s0_0 x1001_2 x1002_2 from IsS123.iI HI0) (rP HO_440001.out) (by decide)) hk (fun _ h => h.2)) (fun _ h => h.1))) (aI (aM (KeepBut.blk hk (g' := gb425) (o := .cells #[.slice none 0 0, .slice none 0 0] 30 (0, 0)) (kP BK425) NB425_0.out (by simp))) (aI (aM (KeepBut.blk hk (g' := gb439) (o := .cells #[.slice Ao31 x440000_1.length co31, u440001] 30 (0, 0)) (kP BK439) NB439_0.out (by simp))) (aI (aM (KeepBut.trans (bK HK) hk (.inl rfl))) (aI (aM (hb)) (aM (hi)))))))
        clear HO_440000 HO_440001 BK425 BK439 HK HB HI0
        obtain ⟨HO_440000, HO_440001, BK425, BK439, HK, HB, HI0⟩ := n_
        (try clear hb)
        (try clear hb2)
        (try clear hk)
        (try clear hi)
        refine hK.out _ _ ⟨(blk_cell BK439.out 0).trans rfl, (blk_cell BK439.out 1).trans rfl⟩ (fun hHeld => ?_)
        clear hK K
        refine norm_ (a' := ?_) ?_ ?_
        rotate_left
        ·show Act.put _ (some 41) _ = _
         simp only [Act.put, List.setIfInBounds_toArray, List.set_cons_zero, List.set_cons_succ, i64_w, i32_w]
         rfl
        refine one_ (i := 8) (N := some 43) #[tT, tT, tT, tT, tT, tT, tT, tT, tT, tF, tF, tF, tF, tF] rfl rfl (one_of HT_.out (by kernel_rfl)) (by decide) (fun K hK => ?_)
        refine goes_ Try.func96 (by kernel_rfl) rfl #[.pointer (some ⟨g, 0, none⟩)] (by rfl) rfl rfl (by (try simp only [List.map_toArray, List.map_cons, List.map_nil]); first | done | rfl | (simp only [List.length_drop, List.length_take]; rfl)) ?_
        with_reducible refine (spec_l3Data.calls k2 g s0_0 t448 t449 t450 t451 t452 w0 _ ?side1 ?side2 A35.out).mono ?_
        (case side1 => exact IsS123.iI HI0)
        (case side2 => exact bB)
        rintro e w39 ⟨rfl, hi, hb, hk⟩
        refine ⟨_, rfl, ?_⟩
        have n_ := aI (aM (Kd.R_mono (Kd.R_keep (IsS123.apart (show IsS123 w0 _ g s0_0 t448 t449 from IsS123.iI HI0) (rP HO_440000.out) (by decide)) hk (fun _ h => h.2)) (fun _ h => h.1))) (aI (aM (Kd.R_mono (Kd.R_keep (IsS123.apart (show IsS123 w0 _ g s0_0 t448 t449 from IsS123.iI HI0) (rP HO_440001.out) (by decide)) hk (fun _ h => h.2)) (fun _ h => h.1))) (aI (aM (KeepBut.blk hk (g' := gb425) (o := .cells #[.slice none 0 0, .slice none 0 0] 30 (0, 0)) (kP BK425) NB425_0.out (by simp))) (aI (aM (KeepBut.blk hk (g' := gb439) (o := .cells #[.slice Ao31 x440000_1.length co31, u440001] 30 (0, 0)) (kP BK439) NB439_0.out (by simp))) (aI (aM (KeepBut.trans (bK HK) hk (.inl rfl))) (aI (aM (hb)) (aM (hi)))))))
        clear HO_440000 HO_440001 BK425 BK439 HK HB HI0
        obtain ⟨HO_440000, HO_440001, BK425, BK439, HK, HB, HI0⟩ := n_
        (try clear hb)
        (try clear hb2)
        (try clear hk)
        (try clear hi)
        refine hK.out _ _ ⟨(blk_cell BK439.out 0).trans rfl, (blk_cell BK439.out 1).trans rfl⟩ (fun hHeld => ?_)
        clear hK K
        refine norm_ (a' := ?_) ?_ ?_
        rotate_left
        ·show Act.put _ (some 43) _ = _
         simp only [Act.put, List.setIfInBounds_toArray, List.set_cons_zero, List.set_cons_succ, i64_w, i32_w]
         rfl
        refine pY 9 44 #[tT, tT, tT, tT, tT, tT, tT, tT, tT, tT, tF, tF, tF, tF] ?_
        refine one_ (i := 10) (N := some 45) #[tT, tT, tT, tT, tT, tT, tT, tT, tT, tT, tT, tF, tF, tF] rfl rfl (one_of HT_.out (by kernel_rfl)) (by decide) (fun K hK => ?_)
        refine value_ (w1 := ?_) (v := ?_) (by rfl) rfl ?_ ?_
        rotate_left 2
        ·go_simp
         constructor
         ·rfl
         ·rfl
        refine hK.out _ _ ⟨(blk_cell (blk_alloc BK439.out _) 0).trans rfl, (blk_cell (blk_alloc BK439.out _) 1).trans rfl⟩ (fun hHeld => ?_)
        clear hK K
        refine norm_ (a' := ?_) ?_ ?_
        rotate_left
        ·show Act.put _ (some 45) _ = _
         simp only [Act.put, List.setIfInBounds_toArray, List.set_cons_zero, List.set_cons_succ, i64_w, i32_w]
         rfl
        refine one_ (i := 11) (N := some 46) #[tT, tT, tT, tT, tT, tT, tT, tT, tT, tT, tT, tT, tF, tF] rfl rfl (one_of HT_.out (by kernel_rfl)) (by decide) (fun K hK => ?_)
        refine Kd.R_append_step k65 w.heap.size (by rfl) (.tmp 36) (.tmp 45) 28 65 (.agg #[(.int .i64 0), (.string ⟨#[]⟩)]) 24 rfl Try.underlying28 info65 rfl (by decide) (by omega) u440001 x440001_2 (⟨t447, t450⟩ : S65) [.int .i64 t447, .string t450] (fun _ => True) (fun _ => False) rfl rfl ?aP (fun _ hk => hk.elim) ?aF ?aO (Below.refl _ _) ?aS ?aL ?_
        (case aP => exact k65_mkM _ _ _ (⟨t447, t450⟩ : S65))
        (case aF => exact (fun _ _ => trivial))
        (case aO => exact (rP HO_440001.out))
        (case aS => exact (keep_size (w := w) (g := g) (row := none) (bK HK)))
        (case aL => have := LMc36.out; omega)
        intro v454 w40 ho hb hg hat
        rw [← Ny453.out] at ho
        have n_ := aI (aM (Kd.R_over' (rP HO_440000.out) (Kd.R_typed (rP HO_440001.out)) (by decide) hg)) (aI (aM (blk_grown (g := gb425) (o := .cells #[.slice none 0 0, .slice none 0 0] 30 (0, 0)) (kP BK425) hg (Kd.R_ne HO_440001.out BK425.out (by decide)))) (aI (aM (blk_grown (g := gb439) (o := .cells #[.slice Ao31 x440000_1.length co31, u440001] 30 (0, 0)) (kP BK439) hg (Kd.R_ne HO_440001.out BK439.out (by decide)))) (aI (aM (IsS123.grown (IsS123.iI HI0) hg (IsS123.own_ne HI0.out HO_440001.out (by decide)))) (aI (aM (below_weaken bB HL.out hb)) (aI (aM (KeepBut.trans (bK HK) (KeepBut.of_grown hg g) (Kd.R_base2 HO_440001.out))) (aM (ho)))))))
        clear HO_440000 BK425 BK439 HI0 HB HK HO_440001
        obtain ⟨HO_440000, BK425, BK439, HI0, HB, HK, HO455⟩ := n_
        clear ho hb hg hat
        obtain ⟨Ao41, co41, eo41⟩ := Kd.R_slice HO455.out
        (first | subst eo41 | (injection eo41 with f1_ f2_ f3_; have f4_ := f1_.symm; have f5_ := f3_.symm; clear f1_ f2_ f3_; subst f4_; subst f5_))
        refine hK.out _ _ ⟨(blk_cell BK439.out 0).trans rfl, (blk_cell BK439.out 1).trans rfl⟩ (fun hHeld => ?_)
        clear hK K
        refine norm_ (a' := ?_) ?_ ?_
        rotate_left
        ·show Act.put _ (some 46) _ = _
         simp only [Act.put, List.setIfInBounds_toArray, List.set_cons_zero, List.set_cons_succ, i64_w, i32_w]
         rfl
        refine pY 12 47 #[tT, tT, tT, tT, tT, tT, tT, tT, tT, tT, tT, tT, tT, tF] ?_
        refine last_ (i := 13) (N := none) #[tT, tT, tT, tT, tT, tT, tT, tT, tT, tT, tT, tT, tT, tT] rfl rfl (one_of HT_.out (by kernel_rfl)) (by decide) (fun K hK => ?_)
        have hs42 : w40.cell? ⟨gb439, 1, none⟩ = some (u440001) := (blk_cell BK439.out 1).trans rfl
        have hfs42 := blk_frozen BK439.out 1
        have hns42_0 := NB425_439.out
        have hms42_0 := NB439_425.out
        refine skip_ (w1 := ?_) (by rfl) rfl ?_ ?_
        rotate_left
        ·go_simp
         rfl
        refine hK.out _ _ ?_
        clear hK K
        refine done_ (done_of HT_.out (by kernel_rfl)) ?_
        try go_wp2
        go_roundg k2
        case measure => have := HK1.out; have := HK2.out; omega
        case rel => exact ⟨(wrap64 (x7_2 + 1)), (t451), (t452), (y453), (.slice Ao41 y453.length co41), (by first | rfl | (simp; done) | (simp [*]; done) | (simp; exact (by intro l_; cases l_ <;> rfl : ∀ l_ : List UInt8, l_.isEmpty = !(l_ != [])) _)), H', ⟨by have := HK1.out; have := HK2.out; omega⟩, ⟨rP (Kd.R_mono (Kd.R_far (p := ⟨gb439, 1, none⟩) (Kd.R_types HO_440000.out BK439.out (by decide)) (fun _ hk => hk.2) (.slice Ao41 y453.length co41)) (fun _ hk => trivial))⟩, ⟨rP (Kd.R_mono (Kd.R_far (p := ⟨gb439, 1, none⟩) (Kd.R_types HO455.out BK439.out (by decide)) (fun _ hk => hk.2) (.slice Ao41 y453.length co41)) (fun _ hk => trivial))⟩, ⟨kP BK425⟩, ⟨by (with_reducible repeat (first | apply bN | apply bD | apply bA)); refine blk_put (cs := #[.slice Ao31 x440000_1.length co31, u440001]) ?_ 1 _ rfl; (with_reducible repeat (first | apply bN | apply bD | apply bA)); exact BK439.out⟩, ⟨IsS123.iI HI0⟩, ⟨bK HK⟩, ⟨bB⟩⟩
       ·rw [if_neg c36] at H
        exact absurd H (by simp)
      ·rw [if_neg c33] at H
       have c33b0 : decide (x7_2 < t444) = false := decide_eq_false c33
       clear c33
       simp only [Option.some.injEq, Prod.mk.injEq] at H
       obtain ⟨rfl, rfl, rfl, rfl⟩ := H
       have hnb43 := NB439_425.out
       have hnc43 := NB425_439.out
       have hnb44 := NB439_0.out
       have hnc44 := NB0_439.out
       have hcz45_0 := cZ0 BK439
       have hcz45_1 := cZ1 BK439
       have hfz45_0 := fZ BK439 0
       have hfz45_1 := fZ BK439 1
       have hnb46 := NB425_0.out
       have hnc46 := NB0_425.out
       have hcz47_0 := cZ0 BK425
       have hcz47_1 := cZ1 BK425
       have hfz47_0 := fZ BK425 0
       have hfz47_1 := fZ BK425 1
       obtain ⟨Ao48, co48, eo48⟩ := Kd.R_slice HO_440001.out
       subst eo48
       go_wp2
       refine bodyPost_ret (results_cell_row rfl _ _ gb425 30 #[.slice Ao31 x440000_1.length co31, .slice Ao48 x440001_2.length co48] (0, 0) _ rfl (by (with_reducible repeat (first | apply bN | apply bD | apply bA)); refine blk_put (cs := #[.slice Ao31 x440000_1.length co31, .slice none 0 0]) ?_ 1 _ rfl; (with_reducible repeat (first | apply bN | apply bD | apply bA)); refine blk_put (cs := #[.slice none 0 0, .slice none 0 0]) ?_ 0 _ rfl; (with_reducible repeat (first | apply bN | apply bD | apply bA)); exact BK425.out) Try.underlying30 rfl (by kernel_rfl)) rfl ?_
       exact ⟨_, _, eW, by (with_reducible repeat (first | apply Kd.R_alloc | apply Kd.R_drewN | apply Kd.R_drew)); exact Kd.R_mono (Kd.R_far (p := ⟨gb425, 1, none⟩) (Kd.R_far (p := ⟨gb425, 0, none⟩) (Kd.R_types HO_440000.out BK425.out (by decide)) (fun _ hk => hk.2) (.slice Ao31 x440000_1.length co31)) (fun _ hk => hk.2) (.slice Ao48 x440001_2.length co48)) (fun _ hk => trivial), by (with_reducible repeat (first | apply Kd.R_alloc | apply Kd.R_drewN | apply Kd.R_drew)); exact Kd.R_mono (Kd.R_far (p := ⟨gb425, 1, none⟩) (Kd.R_far (p := ⟨gb425, 0, none⟩) (Kd.R_types HO_440001.out BK425.out (by decide)) (fun _ hk => hk.2) (.slice Ao31 x440000_1.length co31)) (fun _ hk => hk.2) (.slice Ao48 x440001_2.length co48)) (fun _ hk => trivial), IsS123.iI HI0, bB, bK HK⟩

end Go.Proofs.Ytgmpdkefegofhaa.PFnRecovered
