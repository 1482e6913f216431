-- Written by xprint.py, a program of this session over the kit's print. Not trusted: Lean checks it.
import Derived.Test.YtapliilimfgdjaaPFnExactShapeOkx0
import Derived.Test.YtapliilimfgdjaaPFnExactShapeOkx1
import Derived.Test.YtapliilimfgdjaaPFnExactShapeOkx4
import Derived.Test.YtapliilimfgdjaaPFnExactShapeOkx5
import Derived.Test.YtapliilimfgdjaaPFnExactShapeOkx8
import Derived.Test.YtapliilimfgdjaaPFnExactShapeOkx9
namespace Go.Proofs.Ytapliilimfgdjaa.PFnExactShapeOk
open Go.RowKit Go.Proofs.YtapliilimfgdjaaW.PrintWords Go.Proofs.YtapliilimfgdjaaW.PrintLast Go.Proofs.YtapliilimfgdjaaW.PrintMore
attribute [local go_sem] max2_int min2_int max_two min_two max_three min_three max_four min_four   -- for this text's walks alone
set_option linter.unusedVariables false
set_option linter.unusedSimpArgs false

/-! ### laws_FnExactShapeOk: function 3 -/
def laws_FnExactShapeOk.f (k : Nat) (l0_0 : List (S53)) (l0_1 : List ByteArray) : Option (Bool) := (laws_szFs.f k l0_0 l0_1 1048576).bind fun t253 => (if t253 < 0 then (some true) else ((laws_toFs.f k l0_0 l0_1).bind fun bt254 => ((spec_ShapeOk.f k bt254.1 bt254.2).bind fun t260 => ((laws_toFs.f k l0_0 l0_1).bind fun bt261 => ((impl_ShapeOk.f k bt261.1 bt261.2).bind fun t268 => (if (t268 != t260) = true then (some false) else ((laws_toFs.f k l0_0 l0_1).bind fun bt269 => ((laws_eqFs.f k bt261.1 bt261.2 bt269.1 bt269.2).bind fun t275 => (if t275 = true then (some true) else (some false))))))))))
theorem laws_FnExactShapeOk.mono : ∀ a0 a1 k, LeO (laws_FnExactShapeOk.f k a0 a1) (laws_FnExactShapeOk.f (k + 1) a0 a1) := by
 intro a0 a1 k
 unfold laws_FnExactShapeOk.f
 have m0_ := @impl_ShapeOk.mono
 have m1_ := @laws_eqFs.mono
 have m2_ := @laws_szFs.mono
 have m3_ := @laws_toFs.mono
 have m4_ := @spec_ShapeOk.mono
 exact mM
set_option maxHeartbeats 8000000 in
set_option maxRecDepth 100000 in
theorem laws_FnExactShapeOk.calls (k : Nat) (A0_0 : Option Addr) (c0_0 : Nat) (l0_0 : List (S53)) (A0_1 : Option Addr) (c0_1 : Nat) (l0_1 : List ByteArray) (r : Bool) (w : World) (hr0_0 : Kd.C k53 w A0_0 l0_0.length l0_0) (hc0_0 : l0_0.length ≤ c0_0) (hr0_1 : Kd.C Kd.string w A0_1 l0_1.length l0_1) (hc0_1 : l0_1.length ≤ c0_1) (h : laws_FnExactShapeOk.f k l0_0 l0_1 = some r) :
  Calls Try.prog 3 #[.agg #[.slice A0_0 l0_0.length c0_0, .slice A0_1 l0_1.length c0_1]] w fun e w' => e = .returned (.bool r) ∧ Below w.heap.size w w' := by
 have hu25 := Try.underlying25
 have hu30 := Try.underlying30
 have HR0_0 := aM hr0_0
 have HC0_0 := aM hc0_0
 clear hr0_0 hc0_0
 have HR0_1 := aM hr0_1
 have HC0_1 := aM hc0_1
 clear hr0_1 hc0_1
 have HB := aM (Below.refl w.heap.size w)
 unfold laws_FnExactShapeOk.f at h
 have H := h
 clear h
 replace H := Option.bind_eq_some_iff.mp H
 obtain ⟨t253, A20, H⟩ := H
 try dsimp only at H
 have A2 := aM A20
 clear A20
 by_cases c3 : t253 < 0
 ·rw [if_pos c3] at H
  have c3b0 : decide (t253 < 0) = true := decide_eq_true c3
  clear c3
  obtain rfl := Option.some.inj H
  go_enter Try.func3, Try.ntmps3
  go_wp2_with (first | ((with_reducible refine gate_dst (N := 1) rfl ?_); refine bE 1 #[.slice A0_0 l0_0.length c0_0, .slice A0_1 l0_1.length c0_1] 25 ?_; intro gb252 hg w4 hbox hb; have n_ := aI (sB HB hb) (aI (aM hbox) (aI (gE HB hg) (gE HB hg))); clear HB; obtain ⟨HB, BK252, GW252, GE252⟩ := n_; (try clear hb hbox hg); have hcz5_0 := cZ0 BK252; have hcz5_1 := cZ1 BK252; have hfz5_0 := fZ BK252 0; have hfz5_1 := fZ BK252 1) | ((with_reducible refine gate_callee (f := 6) rfl ?_); refine gL (some 9) Try.func6 #[.agg #[.slice A0_0 l0_0.length c0_0, .slice A0_1 l0_1.length c0_1], .int .i64 1048576] ?_; (with_reducible refine (laws_szFs.calls k _ _ l0_0 _ _ l0_1 1048576 t253 _ ?side1 ?side2 ?side3 ?side4 A2.out).mono ?_); (case side1 => exact cS HR0_0 HB); (case side2 => exact HC0_0.out); (case side3 => exact cS HR0_1 HB); (case side4 => exact HC0_1.out); rintro e w6 ⟨rfl, hb⟩; refine ⟨_, rfl, ?_⟩; have n_ := aI (kB BK252 hb) (sB HB hb); clear BK252 HB; obtain ⟨BK252, HB⟩ := n_; (try clear hb)))
  go_ret
  exact ⟨eW, bB⟩
 rw [if_neg c3] at H
 have c3b0 : decide (t253 < 0) = false := decide_eq_false c3
 clear c3
 replace H := Option.bind_eq_some_iff.mp H
 obtain ⟨⟨t254, t257⟩, A70, H⟩ := H
 try dsimp only at H
 have A7 := aM A70
 clear A70
 replace H := Option.bind_eq_some_iff.mp H
 obtain ⟨t260, A80, H⟩ := H
 try dsimp only at H
 have A8 := aM A80
 clear A80
 replace H := Option.bind_eq_some_iff.mp H
 obtain ⟨⟨t261, t264⟩, A90, H⟩ := H
 try dsimp only at H
 have A9 := aM A90
 clear A90
 replace H := Option.bind_eq_some_iff.mp H
 obtain ⟨t268, A100, H⟩ := H
 try dsimp only at H
 have A10 := aM A100
 clear A100
 by_cases c11 : (t268 != t260) = true
 ·rw [if_pos c11] at H
  have c11b0 : (t268 != t260) = true := c11
  (try (have c11b1 : decide (t268 = t260) = false := by simpa using c11))
  (try (have c11b2 : (t268 == t260) = false := by simpa using c11))
  (try (have c11b3 : ¬ (t268 = t260) := by simpa using c11))
  clear c11
  obtain rfl := Option.some.inj H
  go_enter Try.func3, Try.ntmps3
  go_wp2_with (first | ((with_reducible refine gate_dst (N := 1) rfl ?_); refine bE 1 #[.slice A0_0 l0_0.length c0_0, .slice A0_1 l0_1.length c0_1] 25 ?_; intro gb252 hg w12 hbox hb; have n_ := aI (sB HB hb) (aI (aM hbox) (aI (gE HB hg) (gE HB hg))); clear HB; obtain ⟨HB, BK252, GW252, GE252⟩ := n_; (try clear hb hbox hg); have hcz13_0 := cZ0 BK252; have hcz13_1 := cZ1 BK252; have hfz13_0 := fZ BK252 0; have hfz13_1 := fZ BK252 1) | ((with_reducible refine gate_callee (f := 6) rfl ?_); refine gL (some 9) Try.func6 #[.agg #[.slice A0_0 l0_0.length c0_0, .slice A0_1 l0_1.length c0_1], .int .i64 1048576] ?_; (with_reducible refine (laws_szFs.calls k _ _ l0_0 _ _ l0_1 1048576 t253 _ ?side1 ?side2 ?side3 ?side4 A2.out).mono ?_); (case side1 => exact cS HR0_0 HB); (case side2 => exact HC0_0.out); (case side3 => exact cS HR0_1 HB); (case side4 => exact HC0_1.out); rintro e w14 ⟨rfl, hb⟩; refine ⟨_, rfl, ?_⟩; have n_ := aI (kB BK252 hb) (sB HB hb); clear BK252 HB; obtain ⟨BK252, HB⟩ := n_; (try clear hb); have hcz15_0 := cZ0 BK252; have hcz15_1 := cZ1 BK252; have hfz15_0 := fZ BK252 0; have hfz15_1 := fZ BK252 1) | ((with_reducible refine gate_callee (f := 8) rfl ?_); refine gL (some 13) Try.func8 #[.agg #[.slice A0_0 l0_0.length c0_0, .slice A0_1 l0_1.length c0_1]] ?_; (with_reducible refine (laws_toFs.calls k _ _ l0_0 _ _ l0_1 t254 t257 _ ?side1 ?side2 ?side3 ?side4 A7.out).mono ?_); (case side1 => exact cS HR0_0 HB); (case side2 => exact HC0_0.out); (case side3 => exact cS HR0_1 HB); (case side4 => exact HC0_1.out); rintro e w16 ⟨v255, v258, rfl, ho0, ho1, hb⟩; refine ⟨_, rfl, ?_⟩; have n_ := aI (aM (Kd.S_lower ho0 (zB HB))) (aI (lR HB ho1) (aI (kB BK252 hb) (sB HB hb))); clear BK252 HB; obtain ⟨HO256, HO259, BK252, HB⟩ := n_; (try clear hb ho0 ho1); obtain ⟨Ao17, co17, eo17⟩ := Kd.S_slice HO256.out; subst eo17; obtain ⟨Ao18, co18, eo18⟩ := Kd.R_slice HO259.out; subst eo18) | ((with_reducible refine gate_callee (f := 7) rfl ?_); refine gL (some 14) Try.func7 #[.agg #[.slice Ao17 t254.length co17, .slice Ao18 t257.length co18]] ?_; (with_reducible refine (spec_ShapeOk.calls k _ _ t254 _ _ t257 t260 _ ?side1 ?side2 ?side3 ?side4 A8.out).mono ?_); (case side1 => repeat (first | exact (Kd.S_reads' HO256.out).2.2 | (with_reducible refine Kd.C_alloc ?_ _) | (with_reducible refine Kd.C_drewN ?_ _) | (with_reducible refine Kd.C_drew ?_))); (case side2 => exact (Kd.S_reads' HO256.out).2.1); (case side3 => exact cR HO259); (case side4 => exact (Kd.R_reads' HO259.out).2.1); rintro e w19 ⟨rfl, hb⟩; refine ⟨_, rfl, ?_⟩; have n_ := aI (aM (Kd.S_below (by (with_reducible repeat (first | apply Kd.S_alloc | apply Kd.S_drewN | apply Kd.S_drew)); exact HO256.out) hb)) (aI (rB HO259 hb) (aI (kB BK252 hb) (sB HB hb))); clear HO256 HO259 BK252 HB; obtain ⟨HO256, HO259, BK252, HB⟩ := n_; (try clear hb); have hcz20_0 := cZ0 BK252; have hcz20_1 := cZ1 BK252; have hfz20_0 := fZ BK252 0; have hfz20_1 := fZ BK252 1) | ((with_reducible refine gate_callee (f := 8) rfl ?_); refine gL (some 16) Try.func8 #[.agg #[.slice A0_0 l0_0.length c0_0, .slice A0_1 l0_1.length c0_1]] ?_; (with_reducible refine (laws_toFs.calls k _ _ l0_0 _ _ l0_1 t261 t264 _ ?side1 ?side2 ?side3 ?side4 A9.out).mono ?_); (case side1 => exact cS HR0_0 HB); (case side2 => exact HC0_0.out); (case side3 => exact cS HR0_1 HB); (case side4 => exact HC0_1.out); rintro e w21 ⟨v262, v265, rfl, ho0, ho1, hb⟩; refine ⟨_, rfl, ?_⟩; have n_ := aI (aM (Kd.S_elder' (by (with_reducible repeat (first | apply Kd.S_alloc | apply Kd.S_drewN | apply Kd.S_drew)); exact HO256.out) (Kd.S_base ho0) hb)) (aI (eR HO259 ho1 hb) (aI (aM (Kd.S_lower (Kd.S_new' ho0 (Kd.S_lt (by (with_reducible repeat (first | apply Kd.S_alloc | apply Kd.S_drewN | apply Kd.S_drew)); exact HO256.out))) (zB HB))) (aI (aM (Kd.R_lower (Kd.R_new' ho1 (rL HO259)) (zB HB))) (aI (kB BK252 hb) (sB HB hb))))); clear HO256 HO259 BK252 HB; obtain ⟨HO256, HO259, HO263, HO266, BK252, HB⟩ := n_; (try clear hb ho0 ho1)) | ((with_reducible refine gate_dst (N := 5) rfl ?_); refine bE 5 #[.slice none 0 0, .slice none 0 0] 30 ?_; intro gb267 hg w22 hbox hb; have n_ := aI (aM (Kd.S_below (by (with_reducible repeat (first | apply Kd.S_alloc | apply Kd.S_drewN | apply Kd.S_drew)); exact HO256.out) hb)) (aI (rB HO259 hb) (aI (aM (Kd.S_below (by (with_reducible repeat (first | apply Kd.S_alloc | apply Kd.S_drewN | apply Kd.S_drew)); exact HO263.out) hb)) (aI (rB HO266 hb) (aI (kB BK252 hb) (aI (sB HB hb) (aI (aM hbox) (aI (gE HB hg) (aI (gE HB hg) (aI (nL BK252 hg) (nG BK252 hg)))))))))); clear HO256 HO259 HO263 HO266 BK252 HB; obtain ⟨HO256, HO259, HO263, HO266, BK252, HB, BK267, GW267, GE267, NB252_267, NB267_252⟩ := n_; (try clear hb hbox hg); obtain ⟨Ao23, co23, eo23⟩ := Kd.S_slice HO263.out; subst eo23; have hnb24 := NB267_252.out; have hnc24 := NB252_267.out; have hcz25_0 := cZ0 BK267; have hcz25_1 := cZ1 BK267; have hfz25_0 := fZ BK267 0; have hfz25_1 := fZ BK267 1; obtain ⟨Ao26, co26, eo26⟩ := Kd.R_slice HO266.out; subst eo26) | ((with_reducible refine gate_callee (f := 9) rfl ?_); refine gL (some 18) Try.func9 #[.agg #[.slice Ao23 t261.length co23, .slice Ao26 t264.length co26]] ?_; (with_reducible refine (impl_ShapeOk.calls k _ _ t261 _ _ t264 t268 _ ?side1 ?side2 ?side3 ?side4 A10.out).mono ?_); (case side1 => refine (Kd.S_reads' (e := 40) (base := w.heap.size) (ok := fun k_ => (True ∧ some k_ ≠ (.slice Ao17 t254.length co17 : Value).ownBlock)) (n := t261.length) (c := co23) ?_).2.2; exact (by (with_reducible repeat (first | apply Kd.S_alloc | apply Kd.S_drewN | apply Kd.S_drew)); exact (Kd.S_mono (Kd.S_far (p := ⟨gb267, 1, none⟩) (Kd.S_far (p := ⟨gb267, 0, none⟩) (Kd.S_types HO263.out BK267.out (by decide)) (fun _ hk => hk.2) (.slice Ao23 t261.length co23)) (fun _ hk => hk.2) (.slice Ao26 t264.length co26)) (fun _ h_ => h_.1)))); (case side2 => exact (Kd.S_reads' HO263.out).2.1); (case side3 => refine (Kd.R_reads' (e := 9) (base := w.heap.size) (ok := fun k_ => (True ∧ some k_ ≠ (.slice Ao18 t257.length co18 : Value).ownBlock)) (n := t264.length) (c := co26) ?_).2.2; exact (rP (Kd.R_mono (Kd.R_far (p := ⟨gb267, 1, none⟩) (Kd.R_far (p := ⟨gb267, 0, none⟩) (Kd.R_types HO266.out BK267.out (by decide)) (fun _ hk => hk.2) (.slice Ao23 t261.length co23)) (fun _ hk => hk.2) (.slice Ao26 t264.length co26)) (fun _ h_ => h_.1)))); (case side4 => exact (Kd.R_reads' HO266.out).2.1); rintro e w27 ⟨rfl, hb⟩; refine ⟨_, rfl, ?_⟩; have n_ := aI (aM (Kd.S_below (by (with_reducible repeat (first | apply Kd.S_alloc | apply Kd.S_drewN | apply Kd.S_drew)); exact (Kd.S_mono (Kd.S_far (p := ⟨gb267, 1, none⟩) (Kd.S_far (p := ⟨gb267, 0, none⟩) (Kd.S_types HO256.out BK267.out (by decide)) (fun _ hk => hk.2) (.slice Ao23 t261.length co23)) (fun _ hk => hk.2) (.slice Ao26 t264.length co26)) (fun _ h_ => h_.1))) hb)) (aI (aM (Kd.R_below (rP (Kd.R_mono (Kd.R_far (p := ⟨gb267, 1, none⟩) (Kd.R_far (p := ⟨gb267, 0, none⟩) (Kd.R_types HO259.out BK267.out (by decide)) (fun _ hk => hk.2) (.slice Ao23 t261.length co23)) (fun _ hk => hk.2) (.slice Ao26 t264.length co26)) (fun _ h_ => h_.1))) hb)) (aI (aM (Kd.S_below (by (with_reducible repeat (first | apply Kd.S_alloc | apply Kd.S_drewN | apply Kd.S_drew)); exact (Kd.S_mono (Kd.S_far (p := ⟨gb267, 1, none⟩) (Kd.S_far (p := ⟨gb267, 0, none⟩) (Kd.S_types HO263.out BK267.out (by decide)) (fun _ hk => hk.2) (.slice Ao23 t261.length co23)) (fun _ hk => hk.2) (.slice Ao26 t264.length co26)) (fun _ h_ => h_.1))) hb)) (aI (aM (Kd.R_below (rP (Kd.R_mono (Kd.R_far (p := ⟨gb267, 1, none⟩) (Kd.R_far (p := ⟨gb267, 0, none⟩) (Kd.R_types HO266.out BK267.out (by decide)) (fun _ hk => hk.2) (.slice Ao23 t261.length co23)) (fun _ hk => hk.2) (.slice Ao26 t264.length co26)) (fun _ h_ => h_.1))) hb)) (aI (kB BK252 hb) (aI (aM (blk_below (g := gb267) (o := .cells #[.slice Ao23 t261.length co23, .slice Ao26 t264.length co26] 30 (0, 0)) (by (with_reducible repeat (first | apply bN | apply bD | apply bA)); refine blk_put (cs := #[.slice Ao23 t261.length co23, .slice none 0 0]) ?_ 1 _ rfl; (with_reducible repeat (first | apply bN | apply bD | apply bA)); refine blk_put (cs := #[.slice none 0 0, .slice none 0 0]) ?_ 0 _ rfl; (with_reducible repeat (first | apply bN | apply bD | apply bA)); exact BK267.out) hb)) (sB HB hb)))))); clear HO256 HO259 HO263 HO266 BK252 BK267 HB; obtain ⟨HO256, HO259, HO263, HO266, BK252, BK267, HB⟩ := n_; (try clear hb)))
  go_ret
  exact ⟨eW, bB⟩
 rw [if_neg c11] at H
 have c11b0 : (t268 != t260) = false := by simpa using c11
 (try (have c11b1 : decide (t268 = t260) = true := by simpa using c11))
 (try (have c11b2 : (t268 == t260) = true := by simpa using c11))
 clear c11
 replace H := Option.bind_eq_some_iff.mp H
 obtain ⟨⟨t269, t272⟩, A280, H⟩ := H
 try dsimp only at H
 have A28 := aM A280
 clear A280
 replace H := Option.bind_eq_some_iff.mp H
 obtain ⟨t275, A290, H⟩ := H
 try dsimp only at H
 have A29 := aM A290
 clear A290
 by_cases c30 : t275 = true
 ·subst c30
  rw [if_pos rfl] at H
  obtain rfl := Option.some.inj H
  go_enter Try.func3, Try.ntmps3
  try go_wp2_with (first | ((with_reducible refine gate_dst (N := 1) rfl ?_); refine bE 1 #[.slice A0_0 l0_0.length c0_0, .slice A0_1 l0_1.length c0_1] 25 ?_; intro gb252 hg w31 hbox hb; have n_ := aI (sB HB hb) (aI (aM hbox) (aI (gE HB hg) (gE HB hg))); clear HB; obtain ⟨HB, BK252, GW252, GE252⟩ := n_; (try clear hb hbox hg); have hcz32_0 := cZ0 BK252; have hcz32_1 := cZ1 BK252; have hfz32_0 := fZ BK252 0; have hfz32_1 := fZ BK252 1) | ((with_reducible refine gate_callee (f := 6) rfl ?_); refine gL (some 9) Try.func6 #[.agg #[.slice A0_0 l0_0.length c0_0, .slice A0_1 l0_1.length c0_1], .int .i64 1048576] ?_; (with_reducible refine (laws_szFs.calls k _ _ l0_0 _ _ l0_1 1048576 t253 _ ?side1 ?side2 ?side3 ?side4 A2.out).mono ?_); (case side1 => exact cS HR0_0 HB); (case side2 => exact HC0_0.out); (case side3 => exact cS HR0_1 HB); (case side4 => exact HC0_1.out); rintro e w33 ⟨rfl, hb⟩; refine ⟨_, rfl, ?_⟩; have n_ := aI (kB BK252 hb) (sB HB hb); clear BK252 HB; obtain ⟨BK252, HB⟩ := n_; (try clear hb); have hcz34_0 := cZ0 BK252; have hcz34_1 := cZ1 BK252; have hfz34_0 := fZ BK252 0; have hfz34_1 := fZ BK252 1) | ((with_reducible refine gate_callee (f := 8) rfl ?_); refine gL (some 13) Try.func8 #[.agg #[.slice A0_0 l0_0.length c0_0, .slice A0_1 l0_1.length c0_1]] ?_; (with_reducible refine (laws_toFs.calls k _ _ l0_0 _ _ l0_1 t254 t257 _ ?side1 ?side2 ?side3 ?side4 A7.out).mono ?_); (case side1 => exact cS HR0_0 HB); (case side2 => exact HC0_0.out); (case side3 => exact cS HR0_1 HB); (case side4 => exact HC0_1.out); rintro e w35 ⟨v255, v258, rfl, ho0, ho1, hb⟩; refine ⟨_, rfl, ?_⟩; have n_ := aI (aM (Kd.S_lower ho0 (zB HB))) (aI (lR HB ho1) (aI (kB BK252 hb) (sB HB hb))); clear BK252 HB; obtain ⟨HO256, HO259, BK252, HB⟩ := n_; (try clear hb ho0 ho1); obtain ⟨Ao36, co36, eo36⟩ := Kd.S_slice HO256.out; subst eo36; obtain ⟨Ao37, co37, eo37⟩ := Kd.R_slice HO259.out; subst eo37) | ((with_reducible refine gate_callee (f := 7) rfl ?_); refine gL (some 14) Try.func7 #[.agg #[.slice Ao36 t254.length co36, .slice Ao37 t257.length co37]] ?_; (with_reducible refine (spec_ShapeOk.calls k _ _ t254 _ _ t257 t260 _ ?side1 ?side2 ?side3 ?side4 A8.out).mono ?_); (case side1 => repeat (first | exact (Kd.S_reads' HO256.out).2.2 | (with_reducible refine Kd.C_alloc ?_ _) | (with_reducible refine Kd.C_drewN ?_ _) | (with_reducible refine Kd.C_drew ?_))); (case side2 => exact (Kd.S_reads' HO256.out).2.1); (case side3 => exact cR HO259); (case side4 => exact (Kd.R_reads' HO259.out).2.1); rintro e w38 ⟨rfl, hb⟩; refine ⟨_, rfl, ?_⟩; have n_ := aI (aM (Kd.S_below (by (with_reducible repeat (first | apply Kd.S_alloc | apply Kd.S_drewN | apply Kd.S_drew)); exact HO256.out) hb)) (aI (rB HO259 hb) (aI (kB BK252 hb) (sB HB hb))); clear HO256 HO259 BK252 HB; obtain ⟨HO256, HO259, BK252, HB⟩ := n_; (try clear hb); have hcz39_0 := cZ0 BK252; have hcz39_1 := cZ1 BK252; have hfz39_0 := fZ BK252 0; have hfz39_1 := fZ BK252 1) | ((with_reducible refine gate_callee (f := 8) rfl ?_); refine gL (some 16) Try.func8 #[.agg #[.slice A0_0 l0_0.length c0_0, .slice A0_1 l0_1.length c0_1]] ?_; (with_reducible refine (laws_toFs.calls k _ _ l0_0 _ _ l0_1 t261 t264 _ ?side1 ?side2 ?side3 ?side4 A9.out).mono ?_); (case side1 => exact cS HR0_0 HB); (case side2 => exact HC0_0.out); (case side3 => exact cS HR0_1 HB); (case side4 => exact HC0_1.out); rintro e w40 ⟨v262, v265, rfl, ho0, ho1, hb⟩; refine ⟨_, rfl, ?_⟩; have n_ := aI (aM (Kd.S_elder' (by (with_reducible repeat (first | apply Kd.S_alloc | apply Kd.S_drewN | apply Kd.S_drew)); exact HO256.out) (Kd.S_base ho0) hb)) (aI (eR HO259 ho1 hb) (aI (aM (Kd.S_lower (Kd.S_new' ho0 (Kd.S_lt (by (with_reducible repeat (first | apply Kd.S_alloc | apply Kd.S_drewN | apply Kd.S_drew)); exact HO256.out))) (zB HB))) (aI (aM (Kd.R_lower (Kd.R_new' ho1 (rL HO259)) (zB HB))) (aI (kB BK252 hb) (sB HB hb))))); clear HO256 HO259 BK252 HB; obtain ⟨HO256, HO259, HO263, HO266, BK252, HB⟩ := n_; (try clear hb ho0 ho1)) | ((with_reducible refine gate_dst (N := 5) rfl ?_); refine bE 5 #[.slice none 0 0, .slice none 0 0] 30 ?_; intro gb267 hg w41 hbox hb; have n_ := aI (aM (Kd.S_below (by (with_reducible repeat (first | apply Kd.S_alloc | apply Kd.S_drewN | apply Kd.S_drew)); exact HO256.out) hb)) (aI (rB HO259 hb) (aI (aM (Kd.S_below (by (with_reducible repeat (first | apply Kd.S_alloc | apply Kd.S_drewN | apply Kd.S_drew)); exact HO263.out) hb)) (aI (rB HO266 hb) (aI (kB BK252 hb) (aI (sB HB hb) (aI (aM hbox) (aI (gE HB hg) (aI (gE HB hg) (aI (nL BK252 hg) (nG BK252 hg)))))))))); clear HO256 HO259 HO263 HO266 BK252 HB; obtain ⟨HO256, HO259, HO263, HO266, BK252, HB, BK267, GW267, GE267, NB252_267, NB267_252⟩ := n_; (try clear hb hbox hg); obtain ⟨Ao42, co42, eo42⟩ := Kd.S_slice HO263.out; subst eo42; have hnb43 := NB267_252.out; have hnc43 := NB252_267.out; have hcz44_0 := cZ0 BK267; have hcz44_1 := cZ1 BK267; have hfz44_0 := fZ BK267 0; have hfz44_1 := fZ BK267 1; obtain ⟨Ao45, co45, eo45⟩ := Kd.R_slice HO266.out; subst eo45) | ((with_reducible refine gate_callee (f := 9) rfl ?_); refine gL (some 18) Try.func9 #[.agg #[.slice Ao42 t261.length co42, .slice Ao45 t264.length co45]] ?_; (with_reducible refine (impl_ShapeOk.calls k _ _ t261 _ _ t264 t268 _ ?side1 ?side2 ?side3 ?side4 A10.out).mono ?_); (case side1 => refine (Kd.S_reads' (e := 40) (base := w.heap.size) (ok := fun k_ => (True ∧ some k_ ≠ (.slice Ao36 t254.length co36 : Value).ownBlock)) (n := t261.length) (c := co42) ?_).2.2; exact (by (with_reducible repeat (first | apply Kd.S_alloc | apply Kd.S_drewN | apply Kd.S_drew)); exact (Kd.S_mono (Kd.S_far (p := ⟨gb267, 1, none⟩) (Kd.S_far (p := ⟨gb267, 0, none⟩) (Kd.S_types HO263.out BK267.out (by decide)) (fun _ hk => hk.2) (.slice Ao42 t261.length co42)) (fun _ hk => hk.2) (.slice Ao45 t264.length co45)) (fun _ h_ => h_.1)))); (case side2 => exact (Kd.S_reads' HO263.out).2.1); (case side3 => refine (Kd.R_reads' (e := 9) (base := w.heap.size) (ok := fun k_ => (True ∧ some k_ ≠ (.slice Ao37 t257.length co37 : Value).ownBlock)) (n := t264.length) (c := co45) ?_).2.2; exact (rP (Kd.R_mono (Kd.R_far (p := ⟨gb267, 1, none⟩) (Kd.R_far (p := ⟨gb267, 0, none⟩) (Kd.R_types HO266.out BK267.out (by decide)) (fun _ hk => hk.2) (.slice Ao42 t261.length co42)) (fun _ hk => hk.2) (.slice Ao45 t264.length co45)) (fun _ h_ => h_.1)))); (case side4 => exact (Kd.R_reads' HO266.out).2.1); rintro e w46 ⟨rfl, hb⟩; refine ⟨_, rfl, ?_⟩; have n_ := aI (aM (Kd.S_below (by (with_reducible repeat (first | apply Kd.S_alloc | apply Kd.S_drewN | apply Kd.S_drew)); exact (Kd.S_mono (Kd.S_far (p := ⟨gb267, 1, none⟩) (Kd.S_far (p := ⟨gb267, 0, none⟩) (Kd.S_types HO256.out BK267.out (by decide)) (fun _ hk => hk.2) (.slice Ao42 t261.length co42)) (fun _ hk => hk.2) (.slice Ao45 t264.length co45)) (fun _ h_ => h_.1))) hb)) (aI (aM (Kd.R_below (rP (Kd.R_mono (Kd.R_far (p := ⟨gb267, 1, none⟩) (Kd.R_far (p := ⟨gb267, 0, none⟩) (Kd.R_types HO259.out BK267.out (by decide)) (fun _ hk => hk.2) (.slice Ao42 t261.length co42)) (fun _ hk => hk.2) (.slice Ao45 t264.length co45)) (fun _ h_ => h_.1))) hb)) (aI (aM (Kd.S_below (by (with_reducible repeat (first | apply Kd.S_alloc | apply Kd.S_drewN | apply Kd.S_drew)); exact (Kd.S_mono (Kd.S_far (p := ⟨gb267, 1, none⟩) (Kd.S_far (p := ⟨gb267, 0, none⟩) (Kd.S_types HO263.out BK267.out (by decide)) (fun _ hk => hk.2) (.slice Ao42 t261.length co42)) (fun _ hk => hk.2) (.slice Ao45 t264.length co45)) (fun _ h_ => h_.1))) hb)) (aI (aM (Kd.R_below (rP (Kd.R_mono (Kd.R_far (p := ⟨gb267, 1, none⟩) (Kd.R_far (p := ⟨gb267, 0, none⟩) (Kd.R_types HO266.out BK267.out (by decide)) (fun _ hk => hk.2) (.slice Ao42 t261.length co42)) (fun _ hk => hk.2) (.slice Ao45 t264.length co45)) (fun _ h_ => h_.1))) hb)) (aI (kB BK252 hb) (aI (aM (blk_below (g := gb267) (o := .cells #[.slice Ao42 t261.length co42, .slice Ao45 t264.length co45] 30 (0, 0)) (by (with_reducible repeat (first | apply bN | apply bD | apply bA)); refine blk_put (cs := #[.slice Ao42 t261.length co42, .slice none 0 0]) ?_ 1 _ rfl; (with_reducible repeat (first | apply bN | apply bD | apply bA)); refine blk_put (cs := #[.slice none 0 0, .slice none 0 0]) ?_ 0 _ rfl; (with_reducible repeat (first | apply bN | apply bD | apply bA)); exact BK267.out) hb)) (sB HB hb)))))); clear HO256 HO259 HO263 HO266 BK252 BK267 HB; obtain ⟨HO256, HO259, HO263, HO266, BK252, BK267, HB⟩ := n_; (try clear hb)))
  have n_ := aI (aM (Kd.S_drew HO256.out)) (aI (aM (Kd.R_drew HO259.out)) (aI (aM (Kd.S_drew HO263.out)) (aI (aM (Kd.R_drew HO266.out)) (aI (aM (blk_drew BK252.out)) (aI (aM (blk_drew BK267.out)) (aM (below_drew1 HB.out)))))))
  clear HO256 HO259 HO263 HO266 BK252 BK267 HB
  obtain ⟨HO256, HO259, HO263, HO266, BK252, BK267, HB⟩ := n_
  refine start_ (n := 5) (S := fun w' => w'.cell? ⟨gb267, 0, none⟩ = some (.slice Ao42 t261.length co42) ∧ w'.cell? ⟨gb267, 1, none⟩ = some (.slice Ao45 t264.length co45) ∧ w'.cell? ⟨gb252, 0, none⟩ = some (.slice A0_0 l0_0.length c0_0) ∧ w'.cell? ⟨gb252, 1, none⟩ = some (.slice A0_1 l0_1.length c0_1)) (ds := []) #[tF, tF, tF, tF, tF] (by kernel_rfl) rfl rfl ⟨(blk_cell BK267.out 0).trans rfl, (blk_cell BK267.out 1).trans rfl, (blk_cell BK252.out 0).trans rfl, (blk_cell BK252.out 1).trans rfl⟩ (fun hHeld => ?_)
  generalize w46.drew = w47 at HO256 HO259 HO263 HO266 BK252 BK267 HB hHeld ⊢
  refine take_ (i := 0) (N := some 22) (v := ?_) (a' := ?_) #[tT, tF, tF, tF, tF] rfl rfl (by kernel_rfl) (fun _ _ _ h => h) (Or.inl ⟨by rfl, ?_⟩) hHeld ?_ ?_
  rotate_left
  ·rintro w' ⟨s0, s1, s2, s3⟩
   go_simp
   with_reducible rfl
  rotate_left
  ·simp only [Act.put, List.setIfInBounds_toArray, List.set_cons_zero, List.set_cons_succ, i64_w, i32_w]
   rfl
  refine take_ (i := 1) (N := some 23) (v := ?_) (a' := ?_) #[tT, tT, tF, tF, tF] rfl rfl (by kernel_rfl) (fun _ _ _ h => h) (Or.inl ⟨by rfl, ?_⟩) hHeld ?_ ?_
  rotate_left
  ·rintro w' ⟨s0, s1, s2, s3⟩
   go_simp
   with_reducible rfl
  rotate_left
  ·simp only [Act.put, List.setIfInBounds_toArray, List.set_cons_zero, List.set_cons_succ, i64_w, i32_w]
   rfl
  refine one_ (i := 2) (N := some 24) #[tT, tT, tT, tF, tF] rfl rfl (by kernel_rfl) (by decide) (fun K hK => ?_)
  refine goes_ Try.func8 (by kernel_rfl) rfl #[.agg #[.slice A0_0 l0_0.length c0_0, .slice A0_1 l0_1.length c0_1]] (by rfl) rfl rfl (by (try simp only [List.map_toArray, List.map_cons, List.map_nil]); first | done | rfl | (simp only [List.length_drop, List.length_take]; rfl)) ?_
  with_reducible refine (laws_toFs.calls k _ _ l0_0 _ _ l0_1 t269 t272 _ ?side1 ?side2 ?side3 ?side4 A28.out).mono ?_
  (case side1 => exact cS HR0_0 HB)
  (case side2 => exact HC0_0.out)
  (case side3 => exact cS HR0_1 HB)
  (case side4 => exact HC0_1.out)
  rintro e w48 ⟨v270, v273, rfl, ho0, ho1, hb⟩
  refine ⟨_, rfl, ?_⟩
  have n_ := aI (aM (Kd.S_elder' (by (with_reducible repeat (first | apply Kd.S_alloc | apply Kd.S_drewN | apply Kd.S_drew)); exact HO256.out) (Kd.S_base ho0) hb)) (aI (eR HO259 ho1 hb) (aI (aM (Kd.S_elder' (by (with_reducible repeat (first | apply Kd.S_alloc | apply Kd.S_drewN | apply Kd.S_drew)); exact HO263.out) (Kd.S_base ho0) hb)) (aI (eR HO266 ho1 hb) (aI (aM (Kd.S_lower (Kd.S_new' (Kd.S_new' ho0 (Kd.S_lt (by (with_reducible repeat (first | apply Kd.S_alloc | apply Kd.S_drewN | apply Kd.S_drew)); exact HO256.out))) (Kd.S_lt (by (with_reducible repeat (first | apply Kd.S_alloc | apply Kd.S_drewN | apply Kd.S_drew)); exact HO263.out))) (zB HB))) (aI (aM (Kd.R_lower (Kd.R_new' (Kd.R_new' ho1 (rL HO259)) (rL HO266)) (zB HB))) (aI (kB BK252 hb) (aI (kB BK267 hb) (sB HB hb))))))))
  clear HO256 HO259 HO263 HO266 BK252 BK267 HB
  obtain ⟨HO256, HO259, HO263, HO266, HO271, HO274, BK252, BK267, HB⟩ := n_
  (try clear hb)
  (try clear hb2)
  (try clear hk)
  (try clear hi)
  (try clear ho0)
  (try clear ho1)
  obtain ⟨Ao49, co49, eo49⟩ := Kd.S_slice HO271.out
  (first | subst eo49 | (injection eo49 with f1_ f2_ f3_; have f4_ := f1_.symm; have f5_ := f3_.symm; clear f1_ f2_ f3_; subst f4_; subst f5_))
  obtain ⟨Ao50, co50, eo50⟩ := Kd.R_slice HO274.out
  (first | subst eo50 | (injection eo50 with f1_ f2_ f3_; have f4_ := f1_.symm; have f5_ := f3_.symm; clear f1_ f2_ f3_; subst f4_; subst f5_))
  refine hK.out _ _ ⟨(blk_cell BK267.out 0).trans rfl, (blk_cell BK267.out 1).trans rfl, (blk_cell BK252.out 0).trans rfl, (blk_cell BK252.out 1).trans rfl⟩ (fun hHeld => ?_)
  clear hK K
  refine norm_ (a' := ?_) ?_ ?_
  rotate_left
  ·show Act.put _ (some 24) _ = _
   simp only [Act.put, List.setIfInBounds_toArray, List.set_cons_zero, List.set_cons_succ, i64_w, i32_w]
   rfl
  refine one_ (i := 3) (N := some 25) #[tT, tT, tT, tT, tF] rfl rfl (by kernel_rfl) (by decide) (fun K hK => ?_)
  refine goes_ Try.func10 (by kernel_rfl) rfl #[.agg #[.slice Ao42 t261.length co42, .slice Ao45 t264.length co45], .agg #[.slice Ao49 t269.length co49, .slice Ao50 t272.length co50]] (by rfl) rfl rfl (by (try simp only [List.map_toArray, List.map_cons, List.map_nil]); first | done | rfl | (simp only [List.length_drop, List.length_take]; rfl)) ?_
  with_reducible refine (laws_eqFs.calls k _ _ t261 _ _ t264 _ _ t269 _ _ t272 true _ ?side1 ?side2 ?side3 ?side4 ?side5 ?side6 ?side7 ?side8 A29.out).mono ?_
  (case side1 => repeat (first | exact (Kd.S_reads' HO263.out).2.2 | (with_reducible refine Kd.C_alloc ?_ _) | (with_reducible refine Kd.C_drewN ?_ _) | (with_reducible refine Kd.C_drew ?_)))
  (case side2 => exact (Kd.S_reads' HO263.out).2.1)
  (case side3 => exact cR HO266)
  (case side4 => exact (Kd.R_reads' HO266.out).2.1)
  (case side5 => repeat (first | exact (Kd.S_reads' HO271.out).2.2 | (with_reducible refine Kd.C_alloc ?_ _) | (with_reducible refine Kd.C_drewN ?_ _) | (with_reducible refine Kd.C_drew ?_)))
  (case side6 => exact (Kd.S_reads' HO271.out).2.1)
  (case side7 => exact cR HO274)
  (case side8 => exact (Kd.R_reads' HO274.out).2.1)
  rintro e w51 ⟨rfl, hb⟩
  refine ⟨_, rfl, ?_⟩
  have n_ := aI (aM (Kd.S_below (by (with_reducible repeat (first | apply Kd.S_alloc | apply Kd.S_drewN | apply Kd.S_drew)); exact HO256.out) hb)) (aI (rB HO259 hb) (aI (aM (Kd.S_below (by (with_reducible repeat (first | apply Kd.S_alloc | apply Kd.S_drewN | apply Kd.S_drew)); exact HO263.out) hb)) (aI (rB HO266 hb) (aI (aM (Kd.S_below (by (with_reducible repeat (first | apply Kd.S_alloc | apply Kd.S_drewN | apply Kd.S_drew)); exact HO271.out) hb)) (aI (rB HO274 hb) (aI (kB BK252 hb) (aI (kB BK267 hb) (sB HB hb))))))))
  clear HO256 HO259 HO263 HO266 HO271 HO274 BK252 BK267 HB
  obtain ⟨HO256, HO259, HO263, HO266, HO271, HO274, BK252, BK267, HB⟩ := n_
  (try clear hb)
  (try clear hb2)
  (try clear hk)
  (try clear hi)
  refine hK.out _ _ ⟨(blk_cell BK267.out 0).trans rfl, (blk_cell BK267.out 1).trans rfl, (blk_cell BK252.out 0).trans rfl, (blk_cell BK252.out 1).trans rfl⟩ (fun hHeld => ?_)
  clear hK K
  refine norm_ (a' := ?_) ?_ ?_
  rotate_left
  ·show Act.put _ (some 25) _ = _
   simp only [Act.put, List.setIfInBounds_toArray, List.set_cons_zero, List.set_cons_succ, i64_w, i32_w]
   rfl
  refine pure_ (i := 4) (N := some 26) (v := ?_) (a' := ?_) #[tT, tT, tT, tT, tT] rfl rfl (by kernel_rfl) (fun _ _ _ h => h) (Or.inl ⟨by rfl, ?_⟩) ?_ ?_
  rotate_left
  ·intro w'
   go_simp
   with_reducible rfl
  rotate_left
  ·simp only [Act.put, List.setIfInBounds_toArray, List.set_cons_zero, List.set_cons_succ, i64_w, i32_w]
   rfl
  refine done_ (by kernel_rfl) ?_
  try go_wp2
  go_ret
  exact ⟨eW, bB⟩
 replace c30 := Bool.eq_false_iff.mpr c30
 subst c30
 rw [if_neg (show ¬ (false = true) by decide)] at H
 obtain rfl := Option.some.inj H
 go_enter Try.func3, Try.ntmps3
 try go_wp2_with (first | ((with_reducible refine gate_dst (N := 1) rfl ?_); refine bE 1 #[.slice A0_0 l0_0.length c0_0, .slice A0_1 l0_1.length c0_1] 25 ?_; intro gb252 hg w52 hbox hb; have n_ := aI (sB HB hb) (aI (aM hbox) (aI (gE HB hg) (gE HB hg))); clear HB; obtain ⟨HB, BK252, GW252, GE252⟩ := n_; (try clear hb hbox hg); have hcz53_0 := cZ0 BK252; have hcz53_1 := cZ1 BK252; have hfz53_0 := fZ BK252 0; have hfz53_1 := fZ BK252 1) | ((with_reducible refine gate_callee (f := 6) rfl ?_); refine gL (some 9) Try.func6 #[.agg #[.slice A0_0 l0_0.length c0_0, .slice A0_1 l0_1.length c0_1], .int .i64 1048576] ?_; (with_reducible refine (laws_szFs.calls k _ _ l0_0 _ _ l0_1 1048576 t253 _ ?side1 ?side2 ?side3 ?side4 A2.out).mono ?_); (case side1 => exact cS HR0_0 HB); (case side2 => exact HC0_0.out); (case side3 => exact cS HR0_1 HB); (case side4 => exact HC0_1.out); rintro e w54 ⟨rfl, hb⟩; refine ⟨_, rfl, ?_⟩; have n_ := aI (kB BK252 hb) (sB HB hb); clear BK252 HB; obtain ⟨BK252, HB⟩ := n_; (try clear hb); have hcz55_0 := cZ0 BK252; have hcz55_1 := cZ1 BK252; have hfz55_0 := fZ BK252 0; have hfz55_1 := fZ BK252 1) | ((with_reducible refine gate_callee (f := 8) rfl ?_); refine gL (some 13) Try.func8 #[.agg #[.slice A0_0 l0_0.length c0_0, .slice A0_1 l0_1.length c0_1]] ?_; (with_reducible refine (laws_toFs.calls k _ _ l0_0 _ _ l0_1 t254 t257 _ ?side1 ?side2 ?side3 ?side4 A7.out).mono ?_); (case side1 => exact cS HR0_0 HB); (case side2 => exact HC0_0.out); (case side3 => exact cS HR0_1 HB); (case side4 => exact HC0_1.out); rintro e w56 ⟨v255, v258, rfl, ho0, ho1, hb⟩; refine ⟨_, rfl, ?_⟩; have n_ := aI (aM (Kd.S_lower ho0 (zB HB))) (aI (lR HB ho1) (aI (kB BK252 hb) (sB HB hb))); clear BK252 HB; obtain ⟨HO256, HO259, BK252, HB⟩ := n_; (try clear hb ho0 ho1); obtain ⟨Ao57, co57, eo57⟩ := Kd.S_slice HO256.out; subst eo57; obtain ⟨Ao58, co58, eo58⟩ := Kd.R_slice HO259.out; subst eo58) | ((with_reducible refine gate_callee (f := 7) rfl ?_); refine gL (some 14) Try.func7 #[.agg #[.slice Ao57 t254.length co57, .slice Ao58 t257.length co58]] ?_; (with_reducible refine (spec_ShapeOk.calls k _ _ t254 _ _ t257 t260 _ ?side1 ?side2 ?side3 ?side4 A8.out).mono ?_); (case side1 => repeat (first | exact (Kd.S_reads' HO256.out).2.2 | (with_reducible refine Kd.C_alloc ?_ _) | (with_reducible refine Kd.C_drewN ?_ _) | (with_reducible refine Kd.C_drew ?_))); (case side2 => exact (Kd.S_reads' HO256.out).2.1); (case side3 => exact cR HO259); (case side4 => exact (Kd.R_reads' HO259.out).2.1); rintro e w59 ⟨rfl, hb⟩; refine ⟨_, rfl, ?_⟩; have n_ := aI (aM (Kd.S_below (by (with_reducible repeat (first | apply Kd.S_alloc | apply Kd.S_drewN | apply Kd.S_drew)); exact HO256.out) hb)) (aI (rB HO259 hb) (aI (kB BK252 hb) (sB HB hb))); clear HO256 HO259 BK252 HB; obtain ⟨HO256, HO259, BK252, HB⟩ := n_; (try clear hb); have hcz60_0 := cZ0 BK252; have hcz60_1 := cZ1 BK252; have hfz60_0 := fZ BK252 0; have hfz60_1 := fZ BK252 1) | ((with_reducible refine gate_callee (f := 8) rfl ?_); refine gL (some 16) Try.func8 #[.agg #[.slice A0_0 l0_0.length c0_0, .slice A0_1 l0_1.length c0_1]] ?_; (with_reducible refine (laws_toFs.calls k _ _ l0_0 _ _ l0_1 t261 t264 _ ?side1 ?side2 ?side3 ?side4 A9.out).mono ?_); (case side1 => exact cS HR0_0 HB); (case side2 => exact HC0_0.out); (case side3 => exact cS HR0_1 HB); (case side4 => exact HC0_1.out); rintro e w61 ⟨v262, v265, rfl, ho0, ho1, hb⟩; refine ⟨_, rfl, ?_⟩; have n_ := aI (aM (Kd.S_elder' (by (with_reducible repeat (first | apply Kd.S_alloc | apply Kd.S_drewN | apply Kd.S_drew)); exact HO256.out) (Kd.S_base ho0) hb)) (aI (eR HO259 ho1 hb) (aI (aM (Kd.S_lower (Kd.S_new' ho0 (Kd.S_lt (by (with_reducible repeat (first | apply Kd.S_alloc | apply Kd.S_drewN | apply Kd.S_drew)); exact HO256.out))) (zB HB))) (aI (aM (Kd.R_lower (Kd.R_new' ho1 (rL HO259)) (zB HB))) (aI (kB BK252 hb) (sB HB hb))))); clear HO256 HO259 BK252 HB; obtain ⟨HO256, HO259, HO263, HO266, BK252, HB⟩ := n_; (try clear hb ho0 ho1)) | ((with_reducible refine gate_dst (N := 5) rfl ?_); refine bE 5 #[.slice none 0 0, .slice none 0 0] 30 ?_; intro gb267 hg w62 hbox hb; have n_ := aI (aM (Kd.S_below (by (with_reducible repeat (first | apply Kd.S_alloc | apply Kd.S_drewN | apply Kd.S_drew)); exact HO256.out) hb)) (aI (rB HO259 hb) (aI (aM (Kd.S_below (by (with_reducible repeat (first | apply Kd.S_alloc | apply Kd.S_drewN | apply Kd.S_drew)); exact HO263.out) hb)) (aI (rB HO266 hb) (aI (kB BK252 hb) (aI (sB HB hb) (aI (aM hbox) (aI (gE HB hg) (aI (gE HB hg) (aI (nL BK252 hg) (nG BK252 hg)))))))))); clear HO256 HO259 HO263 HO266 BK252 HB; obtain ⟨HO256, HO259, HO263, HO266, BK252, HB, BK267, GW267, GE267, NB252_267, NB267_252⟩ := n_; (try clear hb hbox hg); obtain ⟨Ao63, co63, eo63⟩ := Kd.S_slice HO263.out; subst eo63; have hnb64 := NB267_252.out; have hnc64 := NB252_267.out; have hcz65_0 := cZ0 BK267; have hcz65_1 := cZ1 BK267; have hfz65_0 := fZ BK267 0; have hfz65_1 := fZ BK267 1; obtain ⟨Ao66, co66, eo66⟩ := Kd.R_slice HO266.out; subst eo66) | ((with_reducible refine gate_callee (f := 9) rfl ?_); refine gL (some 18) Try.func9 #[.agg #[.slice Ao63 t261.length co63, .slice Ao66 t264.length co66]] ?_; (with_reducible refine (impl_ShapeOk.calls k _ _ t261 _ _ t264 t268 _ ?side1 ?side2 ?side3 ?side4 A10.out).mono ?_); (case side1 => refine (Kd.S_reads' (e := 40) (base := w.heap.size) (ok := fun k_ => (True ∧ some k_ ≠ (.slice Ao57 t254.length co57 : Value).ownBlock)) (n := t261.length) (c := co63) ?_).2.2; exact (by (with_reducible repeat (first | apply Kd.S_alloc | apply Kd.S_drewN | apply Kd.S_drew)); exact (Kd.S_mono (Kd.S_far (p := ⟨gb267, 1, none⟩) (Kd.S_far (p := ⟨gb267, 0, none⟩) (Kd.S_types HO263.out BK267.out (by decide)) (fun _ hk => hk.2) (.slice Ao63 t261.length co63)) (fun _ hk => hk.2) (.slice Ao66 t264.length co66)) (fun _ h_ => h_.1)))); (case side2 => exact (Kd.S_reads' HO263.out).2.1); (case side3 => refine (Kd.R_reads' (e := 9) (base := w.heap.size) (ok := fun k_ => (True ∧ some k_ ≠ (.slice Ao58 t257.length co58 : Value).ownBlock)) (n := t264.length) (c := co66) ?_).2.2; exact (rP (Kd.R_mono (Kd.R_far (p := ⟨gb267, 1, none⟩) (Kd.R_far (p := ⟨gb267, 0, none⟩) (Kd.R_types HO266.out BK267.out (by decide)) (fun _ hk => hk.2) (.slice Ao63 t261.length co63)) (fun _ hk => hk.2) (.slice Ao66 t264.length co66)) (fun _ h_ => h_.1)))); (case side4 => exact (Kd.R_reads' HO266.out).2.1); rintro e w67 ⟨rfl, hb⟩; refine ⟨_, rfl, ?_⟩; have n_ := aI (aM (Kd.S_below (by (with_reducible repeat (first | apply Kd.S_alloc | apply Kd.S_drewN | apply Kd.S_drew)); exact (Kd.S_mono (Kd.S_far (p := ⟨gb267, 1, none⟩) (Kd.S_far (p := ⟨gb267, 0, none⟩) (Kd.S_types HO256.out BK267.out (by decide)) (fun _ hk => hk.2) (.slice Ao63 t261.length co63)) (fun _ hk => hk.2) (.slice Ao66 t264.length co66)) (fun _ h_ => h_.1))) hb)) (aI (aM (Kd.R_below (rP (Kd.R_mono (Kd.R_far (p := ⟨gb267, 1, none⟩) (Kd.R_far (p := ⟨gb267, 0, none⟩) (Kd.R_types HO259.out BK267.out (by decide)) (fun _ hk => hk.2) (.slice Ao63 t261.length co63)) (fun _ hk => hk.2) (.slice Ao66 t264.length co66)) (fun _ h_ => h_.1))) hb)) (aI (aM (Kd.S_below (by (with_reducible repeat (first | apply Kd.S_alloc | apply Kd.S_drewN | apply Kd.S_drew)); exact (Kd.S_mono (Kd.S_far (p := ⟨gb267, 1, none⟩) (Kd.S_far (p := ⟨gb267, 0, none⟩) (Kd.S_types HO263.out BK267.out (by decide)) (fun _ hk => hk.2) (.slice Ao63 t261.length co63)) (fun _ hk => hk.2) (.slice Ao66 t264.length co66)) (fun _ h_ => h_.1))) hb)) (aI (aM (Kd.R_below (rP (Kd.R_mono (Kd.R_far (p := ⟨gb267, 1, none⟩) (Kd.R_far (p := ⟨gb267, 0, none⟩) (Kd.R_types HO266.out BK267.out (by decide)) (fun _ hk => hk.2) (.slice Ao63 t261.length co63)) (fun _ hk => hk.2) (.slice Ao66 t264.length co66)) (fun _ h_ => h_.1))) hb)) (aI (kB BK252 hb) (aI (aM (blk_below (g := gb267) (o := .cells #[.slice Ao63 t261.length co63, .slice Ao66 t264.length co66] 30 (0, 0)) (by (with_reducible repeat (first | apply bN | apply bD | apply bA)); refine blk_put (cs := #[.slice Ao63 t261.length co63, .slice none 0 0]) ?_ 1 _ rfl; (with_reducible repeat (first | apply bN | apply bD | apply bA)); refine blk_put (cs := #[.slice none 0 0, .slice none 0 0]) ?_ 0 _ rfl; (with_reducible repeat (first | apply bN | apply bD | apply bA)); exact BK267.out) hb)) (sB HB hb)))))); clear HO256 HO259 HO263 HO266 BK252 BK267 HB; obtain ⟨HO256, HO259, HO263, HO266, BK252, BK267, HB⟩ := n_; (try clear hb)))
 have n_ := aI (aM (Kd.S_drew HO256.out)) (aI (aM (Kd.R_drew HO259.out)) (aI (aM (Kd.S_drew HO263.out)) (aI (aM (Kd.R_drew HO266.out)) (aI (aM (blk_drew BK252.out)) (aI (aM (blk_drew BK267.out)) (aM (below_drew1 HB.out)))))))
 clear HO256 HO259 HO263 HO266 BK252 BK267 HB
 obtain ⟨HO256, HO259, HO263, HO266, BK252, BK267, HB⟩ := n_
 refine start_ (n := 5) (S := fun w' => w'.cell? ⟨gb267, 0, none⟩ = some (.slice Ao63 t261.length co63) ∧ w'.cell? ⟨gb267, 1, none⟩ = some (.slice Ao66 t264.length co66) ∧ w'.cell? ⟨gb252, 0, none⟩ = some (.slice A0_0 l0_0.length c0_0) ∧ w'.cell? ⟨gb252, 1, none⟩ = some (.slice A0_1 l0_1.length c0_1)) (ds := []) #[tF, tF, tF, tF, tF] (by kernel_rfl) rfl rfl ⟨(blk_cell BK267.out 0).trans rfl, (blk_cell BK267.out 1).trans rfl, (blk_cell BK252.out 0).trans rfl, (blk_cell BK252.out 1).trans rfl⟩ (fun hHeld => ?_)
 generalize w67.drew = w68 at HO256 HO259 HO263 HO266 BK252 BK267 HB hHeld ⊢
 refine take_ (i := 0) (N := some 22) (v := ?_) (a' := ?_) #[tT, tF, tF, tF, tF] rfl rfl (by kernel_rfl) (fun _ _ _ h => h) (Or.inl ⟨by rfl, ?_⟩) hHeld ?_ ?_
 rotate_left
 ·rintro w' ⟨s0, s1, s2, s3⟩
  go_simp
  with_reducible rfl
 rotate_left
 ·simp only [Act.put, List.setIfInBounds_toArray, List.set_cons_zero, List.set_cons_succ, i64_w, i32_w]
  rfl
 refine take_ (i := 1) (N := some 23) (v := ?_) (a' := ?_) #[tT, tT, tF, tF, tF] rfl rfl (by kernel_rfl) (fun _ _ _ h => h) (Or.inl ⟨by rfl, ?_⟩) hHeld ?_ ?_
 rotate_left
 ·rintro w' ⟨s0, s1, s2, s3⟩
  go_simp
  with_reducible rfl
 rotate_left
 ·simp only [Act.put, List.setIfInBounds_toArray, List.set_cons_zero, List.set_cons_succ, i64_w, i32_w]
  rfl
 refine one_ (i := 2) (N := some 24) #[tT, tT, tT, tF, tF] rfl rfl (by kernel_rfl) (by decide) (fun K hK => ?_)
 refine goes_ Try.func8 (by kernel_rfl) rfl #[.agg #[.slice A0_0 l0_0.length c0_0, .slice A0_1 l0_1.length c0_1]] (by rfl) rfl rfl (by (try simp only [List.map_toArray, List.map_cons, List.map_nil]); first | done | rfl | (simp only [List.length_drop, List.length_take]; rfl)) ?_
 with_reducible refine (laws_toFs.calls k _ _ l0_0 _ _ l0_1 t269 t272 _ ?side1 ?side2 ?side3 ?side4 A28.out).mono ?_
 (case side1 => exact cS HR0_0 HB)
 (case side2 => exact HC0_0.out)
 (case side3 => exact cS HR0_1 HB)
 (case side4 => exact HC0_1.out)
 rintro e w69 ⟨v270, v273, rfl, ho0, ho1, hb⟩
 refine ⟨_, rfl, ?_⟩
 have n_ := aI (aM (Kd.S_elder' (by (with_reducible repeat (first | apply Kd.S_alloc | apply Kd.S_drewN | apply Kd.S_drew)); exact HO256.out) (Kd.S_base ho0) hb)) (aI (eR HO259 ho1 hb) (aI (aM (Kd.S_elder' (by (with_reducible repeat (first | apply Kd.S_alloc | apply Kd.S_drewN | apply Kd.S_drew)); exact HO263.out) (Kd.S_base ho0) hb)) (aI (eR HO266 ho1 hb) (aI (aM (Kd.S_lower (Kd.S_new' (Kd.S_new' ho0 (Kd.S_lt (by (with_reducible repeat (first | apply Kd.S_alloc | apply Kd.S_drewN | apply Kd.S_drew)); exact HO256.out))) (Kd.S_lt (by (with_reducible repeat (first | apply Kd.S_alloc | apply Kd.S_drewN | apply Kd.S_drew)); exact HO263.out))) (zB HB))) (aI (aM (Kd.R_lower (Kd.R_new' (Kd.R_new' ho1 (rL HO259)) (rL HO266)) (zB HB))) (aI (kB BK252 hb) (aI (kB BK267 hb) (sB HB hb))))))))
 clear HO256 HO259 HO263 HO266 BK252 BK267 HB
 obtain ⟨HO256, HO259, HO263, HO266, HO271, HO274, BK252, BK267, HB⟩ := n_
 (try clear hb)
 (try clear hb2)
 (try clear hk)
 (try clear hi)
 (try clear ho0)
 (try clear ho1)
 obtain ⟨Ao70, co70, eo70⟩ := Kd.S_slice HO271.out
 (first | subst eo70 | (injection eo70 with f1_ f2_ f3_; have f4_ := f1_.symm; have f5_ := f3_.symm; clear f1_ f2_ f3_; subst f4_; subst f5_))
 obtain ⟨Ao71, co71, eo71⟩ := Kd.R_slice HO274.out
 (first | subst eo71 | (injection eo71 with f1_ f2_ f3_; have f4_ := f1_.symm; have f5_ := f3_.symm; clear f1_ f2_ f3_; subst f4_; subst f5_))
 refine hK.out _ _ ⟨(blk_cell BK267.out 0).trans rfl, (blk_cell BK267.out 1).trans rfl, (blk_cell BK252.out 0).trans rfl, (blk_cell BK252.out 1).trans rfl⟩ (fun hHeld => ?_)
 clear hK K
 refine norm_ (a' := ?_) ?_ ?_
 rotate_left
 ·show Act.put _ (some 24) _ = _
  simp only [Act.put, List.setIfInBounds_toArray, List.set_cons_zero, List.set_cons_succ, i64_w, i32_w]
  rfl
 refine one_ (i := 3) (N := some 25) #[tT, tT, tT, tT, tF] rfl rfl (by kernel_rfl) (by decide) (fun K hK => ?_)
 refine goes_ Try.func10 (by kernel_rfl) rfl #[.agg #[.slice Ao63 t261.length co63, .slice Ao66 t264.length co66], .agg #[.slice Ao70 t269.length co70, .slice Ao71 t272.length co71]] (by rfl) rfl rfl (by (try simp only [List.map_toArray, List.map_cons, List.map_nil]); first | done | rfl | (simp only [List.length_drop, List.length_take]; rfl)) ?_
 with_reducible refine (laws_eqFs.calls k _ _ t261 _ _ t264 _ _ t269 _ _ t272 false _ ?side1 ?side2 ?side3 ?side4 ?side5 ?side6 ?side7 ?side8 A29.out).mono ?_
 (case side1 => repeat (first | exact (Kd.S_reads' HO263.out).2.2 | (with_reducible refine Kd.C_alloc ?_ _) | (with_reducible refine Kd.C_drewN ?_ _) | (with_reducible refine Kd.C_drew ?_)))
 (case side2 => exact (Kd.S_reads' HO263.out).2.1)
 (case side3 => exact cR HO266)
 (case side4 => exact (Kd.R_reads' HO266.out).2.1)
 (case side5 => repeat (first | exact (Kd.S_reads' HO271.out).2.2 | (with_reducible refine Kd.C_alloc ?_ _) | (with_reducible refine Kd.C_drewN ?_ _) | (with_reducible refine Kd.C_drew ?_)))
 (case side6 => exact (Kd.S_reads' HO271.out).2.1)
 (case side7 => exact cR HO274)
 (case side8 => exact (Kd.R_reads' HO274.out).2.1)
 rintro e w72 ⟨rfl, hb⟩
 refine ⟨_, rfl, ?_⟩
 have n_ := aI (aM (Kd.S_below (by (with_reducible repeat (first | apply Kd.S_alloc | apply Kd.S_drewN | apply Kd.S_drew)); exact HO256.out) hb)) (aI (rB HO259 hb) (aI (aM (Kd.S_below (by (with_reducible repeat (first | apply Kd.S_alloc | apply Kd.S_drewN | apply Kd.S_drew)); exact HO263.out) hb)) (aI (rB HO266 hb) (aI (aM (Kd.S_below (by (with_reducible repeat (first | apply Kd.S_alloc | apply Kd.S_drewN | apply Kd.S_drew)); exact HO271.out) hb)) (aI (rB HO274 hb) (aI (kB BK252 hb) (aI (kB BK267 hb) (sB HB hb))))))))
 clear HO256 HO259 HO263 HO266 HO271 HO274 BK252 BK267 HB
 obtain ⟨HO256, HO259, HO263, HO266, HO271, HO274, BK252, BK267, HB⟩ := n_
 (try clear hb)
 (try clear hb2)
 (try clear hk)
 (try clear hi)
 refine hK.out _ _ ⟨(blk_cell BK267.out 0).trans rfl, (blk_cell BK267.out 1).trans rfl, (blk_cell BK252.out 0).trans rfl, (blk_cell BK252.out 1).trans rfl⟩ (fun hHeld => ?_)
 clear hK K
 refine norm_ (a' := ?_) ?_ ?_
 rotate_left
 ·show Act.put _ (some 25) _ = _
  simp only [Act.put, List.setIfInBounds_toArray, List.set_cons_zero, List.set_cons_succ, i64_w, i32_w]
  rfl
 refine pure_ (i := 4) (N := some 26) (v := ?_) (a' := ?_) #[tT, tT, tT, tT, tT] rfl rfl (by kernel_rfl) (fun _ _ _ h => h) (Or.inl ⟨by rfl, ?_⟩) ?_ ?_
 rotate_left
 ·intro w'
  go_simp
  with_reducible rfl
 rotate_left
 ·simp only [Act.put, List.setIfInBounds_toArray, List.set_cons_zero, List.set_cons_succ, i64_w, i32_w]
  rfl
 refine done_ (by kernel_rfl) ?_
 try go_wp2
 go_ret
 exact ⟨eW, bB⟩

/-- THE ONE PURE STATEMENT of laws_FnExactShapeOk. -/
def laws_FnExactShapeOk.Pure : Prop := ∀ (l0_0 : List (S53)) (l0_1 : List ByteArray), (l0_0.length ≤ maxLen ∧ ∀ x_ ∈ l0_0, ((Lit.int .i64 x_.f0).wf = true ∧ (Lit.int .i64 x_.f1).wf = true ∧ (Lit.int .i64 x_.f2).wf = true ∧ (Lit.int .i64 x_.f3).wf = true ∧ (x_.f4.length ≤ maxLen ∧ ∀ y_ ∈ x_.f4, (Lit.int .i64 y_).wf = true))) → (l0_1.length ≤ maxLen ∧ ∀ x_ ∈ l0_1, x_.size ≤ maxLen) → ∃ k, laws_FnExactShapeOk.f k l0_0 l0_1 = some true

end Go.Proofs.Ytapliilimfgdjaa.PFnExactShapeOk
