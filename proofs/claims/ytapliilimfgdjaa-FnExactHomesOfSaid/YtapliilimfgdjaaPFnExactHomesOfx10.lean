-- Written by xprint.py, a program of this session over the kit's print. Not trusted: Lean checks it.
import Derived.Test.YtapliilimfgdjaaPFnExactHomesOfx0
import Derived.Test.YtapliilimfgdjaaPFnExactHomesOfx1
import Derived.Test.YtapliilimfgdjaaPFnExactHomesOfx2
import Derived.Test.YtapliilimfgdjaaPFnExactHomesOfx6
import Derived.Test.YtapliilimfgdjaaPFnExactHomesOfx9
namespace Go.Proofs.Ytapliilimfgdjaa.PFnExactHomesOf
open Go.RowKit Go.Proofs.YtapliilimfgdjaaW.PrintWords Go.Proofs.YtapliilimfgdjaaW.PrintLast Go.Proofs.YtapliilimfgdjaaW.PrintMore
attribute [local go_sem] max2_int min2_int max_two min_two max_three min_three max_four min_four   -- for this text's walks alone
set_option linter.unusedVariables false
set_option linter.unusedSimpArgs false

/-! ### laws_FnExactHomesOf: function 4 -/
def laws_FnExactHomesOf.f (k : Nat) (l0_0 : List (S53)) (l0_1 : List ByteArray) : Option (Bool) := (laws_szFs.f k l0_0 l0_1 1048576).bind fun t257 => (if t257 < 0 then (some true) else ((laws_toFs.f k l0_0 l0_1).bind fun bt258 => ((spec_HomesOf.f k bt258.1 bt258.2).bind fun t264 => ((laws_toFs.f k l0_0 l0_1).bind fun bt265 => ((impl_HomesOf.f k bt265.1 bt265.2).bind fun t272 => (if t272 = t264 then ((laws_toFs.f k l0_0 l0_1).bind fun bt273 => ((laws_eqFs.f k bt265.1 bt265.2 bt273.1 bt273.2).bind fun t279 => (if t279 = true then (some true) else (some false)))) else (some false)))))))
theorem laws_FnExactHomesOf.mono : ∀ a0 a1 k, LeO (laws_FnExactHomesOf.f k a0 a1) (laws_FnExactHomesOf.f (k + 1) a0 a1) := by
 intro a0 a1 k
 unfold laws_FnExactHomesOf.f
 have m0_ := @impl_HomesOf.mono
 have m1_ := @laws_eqFs.mono
 have m2_ := @laws_szFs.mono
 have m3_ := @laws_toFs.mono
 have m4_ := @spec_HomesOf.mono
 exact mM
set_option maxHeartbeats 8000000 in
set_option maxRecDepth 100000 in
theorem laws_FnExactHomesOf.calls (k : Nat) (A0_0 : Option Addr) (c0_0 : Nat) (l0_0 : List (S53)) (A0_1 : Option Addr) (c0_1 : Nat) (l0_1 : List ByteArray) (r : Bool) (w : World) (hr0_0 : Kd.C k53 w A0_0 l0_0.length l0_0) (hc0_0 : l0_0.length ≤ c0_0) (hr0_1 : Kd.C Kd.string w A0_1 l0_1.length l0_1) (hc0_1 : l0_1.length ≤ c0_1) (h : laws_FnExactHomesOf.f k l0_0 l0_1 = some r) :
  Calls Try.prog 4 #[.agg #[.slice A0_0 l0_0.length c0_0, .slice A0_1 l0_1.length c0_1]] w fun e w' => e = .returned (.bool r) ∧ Below w.heap.size w w' := by
 have hu25 := Try.underlying25
 have hu30 := Try.underlying30
 have HR0_0 := aM hr0_0
 have HC0_0 := aM hc0_0
 clear hr0_0 hc0_0
 have HR0_1 := aM hr0_1
 have HC0_1 := aM hc0_1
 clear hr0_1 hc0_1
 have HB := aM (Below.refl w.heap.size w)
 unfold laws_FnExactHomesOf.f at h
 have H := h
 clear h
 replace H := Option.bind_eq_some_iff.mp H
 obtain ⟨t257, A20, H⟩ := H
 try dsimp only at H
 have A2 := aM A20
 clear A20
 by_cases c3 : t257 < 0
 ·rw [if_pos c3] at H
  have c3b0 : decide (t257 < 0) = true := decide_eq_true c3
  clear c3
  obtain rfl := Option.some.inj H
  go_enter Try.func4, Try.ntmps4
  go_wp2_with (first | ((with_reducible refine gate_dst (N := 1) rfl ?_); refine bE 1 #[.slice A0_0 l0_0.length c0_0, .slice A0_1 l0_1.length c0_1] 25 ?_; intro gb256 hg w4 hbox hb; have n_ := aI (sB HB hb) (aI (aM hbox) (aI (gE HB hg) (gE HB hg))); clear HB; obtain ⟨HB, BK256, GW256, GE256⟩ := n_; (try clear hb hbox hg); have hcz5_0 := cZ0 BK256; have hcz5_1 := cZ1 BK256; have hfz5_0 := fZ BK256 0; have hfz5_1 := fZ BK256 1) | ((with_reducible refine gate_callee (f := 6) rfl ?_); refine gL (some 9) Try.func6 #[.agg #[.slice A0_0 l0_0.length c0_0, .slice A0_1 l0_1.length c0_1], .int .i64 1048576] ?_; (with_reducible refine (laws_szFs.calls k _ _ l0_0 _ _ l0_1 1048576 t257 _ ?side1 ?side2 ?side3 ?side4 A2.out).mono ?_); (case side1 => exact cS HR0_0 HB); (case side2 => exact HC0_0.out); (case side3 => exact cS HR0_1 HB); (case side4 => exact HC0_1.out); rintro e w6 ⟨rfl, hb⟩; refine ⟨_, rfl, ?_⟩; have n_ := aI (kB BK256 hb) (sB HB hb); clear BK256 HB; obtain ⟨BK256, HB⟩ := n_; (try clear hb)))
  go_ret
  exact ⟨eW, bB⟩
 rw [if_neg c3] at H
 have c3b0 : decide (t257 < 0) = false := decide_eq_false c3
 clear c3
 replace H := Option.bind_eq_some_iff.mp H
 obtain ⟨⟨t258, t261⟩, A70, H⟩ := H
 try dsimp only at H
 have A7 := aM A70
 clear A70
 replace H := Option.bind_eq_some_iff.mp H
 obtain ⟨t264, A80, H⟩ := H
 try dsimp only at H
 have A8 := aM A80
 clear A80
 replace H := Option.bind_eq_some_iff.mp H
 obtain ⟨⟨t265, t268⟩, A90, H⟩ := H
 try dsimp only at H
 have A9 := aM A90
 clear A90
 replace H := Option.bind_eq_some_iff.mp H
 obtain ⟨t272, A100, H⟩ := H
 try dsimp only at H
 have A10 := aM A100
 clear A100
 by_cases c11 : t272 = t264
 ·rw [if_pos c11] at H
  have c11b0 : (t272 == t264) = true := beq_iff_eq.mpr c11
  have c11b1 : (t272 != t264) = false := bne_eq_false_iff_eq.mpr c11
  clear c11
  replace H := Option.bind_eq_some_iff.mp H
  obtain ⟨⟨t273, t276⟩, A120, H⟩ := H
  try dsimp only at H
  have A12 := aM A120
  clear A120
  replace H := Option.bind_eq_some_iff.mp H
  obtain ⟨t279, A130, H⟩ := H
  try dsimp only at H
  have A13 := aM A130
  clear A130
  by_cases c14 : t279 = true
  ·subst c14
   rw [if_pos rfl] at H
   obtain rfl := Option.some.inj H
   go_enter Try.func4, Try.ntmps4
   try go_wp2_with (first | ((with_reducible refine gate_dst (N := 1) rfl ?_); refine bE 1 #[.slice A0_0 l0_0.length c0_0, .slice A0_1 l0_1.length c0_1] 25 ?_; intro gb256 hg w15 hbox hb; have n_ := aI (sB HB hb) (aI (aM hbox) (aI (gE HB hg) (gE HB hg))); clear HB; obtain ⟨HB, BK256, GW256, GE256⟩ := n_; (try clear hb hbox hg); have hcz16_0 := cZ0 BK256; have hcz16_1 := cZ1 BK256; have hfz16_0 := fZ BK256 0; have hfz16_1 := fZ BK256 1) | ((with_reducible refine gate_callee (f := 6) rfl ?_); refine gL (some 9) Try.func6 #[.agg #[.slice A0_0 l0_0.length c0_0, .slice A0_1 l0_1.length c0_1], .int .i64 1048576] ?_; (with_reducible refine (laws_szFs.calls k _ _ l0_0 _ _ l0_1 1048576 t257 _ ?side1 ?side2 ?side3 ?side4 A2.out).mono ?_); (case side1 => exact cS HR0_0 HB); (case side2 => exact HC0_0.out); (case side3 => exact cS HR0_1 HB); (case side4 => exact HC0_1.out); rintro e w17 ⟨rfl, hb⟩; refine ⟨_, rfl, ?_⟩; have n_ := aI (kB BK256 hb) (sB HB hb); clear BK256 HB; obtain ⟨BK256, HB⟩ := n_; (try clear hb); have hcz18_0 := cZ0 BK256; have hcz18_1 := cZ1 BK256; have hfz18_0 := fZ BK256 0; have hfz18_1 := fZ BK256 1) | ((with_reducible refine gate_callee (f := 8) rfl ?_); refine gL (some 13) Try.func8 #[.agg #[.slice A0_0 l0_0.length c0_0, .slice A0_1 l0_1.length c0_1]] ?_; (with_reducible refine (laws_toFs.calls k _ _ l0_0 _ _ l0_1 t258 t261 _ ?side1 ?side2 ?side3 ?side4 A7.out).mono ?_); (case side1 => exact cS HR0_0 HB); (case side2 => exact HC0_0.out); (case side3 => exact cS HR0_1 HB); (case side4 => exact HC0_1.out); rintro e w19 ⟨v259, v262, rfl, ho0, ho1, hb⟩; refine ⟨_, rfl, ?_⟩; have n_ := aI (aM (Kd.S_lower ho0 (zB HB))) (aI (lR HB ho1) (aI (kB BK256 hb) (sB HB hb))); clear BK256 HB; obtain ⟨HO260, HO263, BK256, HB⟩ := n_; (try clear hb ho0 ho1); obtain ⟨Ao20, co20, eo20⟩ := Kd.S_slice HO260.out; subst eo20; obtain ⟨Ao21, co21, eo21⟩ := Kd.R_slice HO263.out; subst eo21) | ((with_reducible refine gate_callee (f := 11) rfl ?_); refine gL (some 14) Try.func11 #[.agg #[.slice Ao20 t258.length co20, .slice Ao21 t261.length co21]] ?_; (with_reducible refine (spec_HomesOf.calls k _ _ t258 _ _ t261 t264 _ ?side1 ?side2 ?side3 ?side4 A8.out).mono ?_); (case side1 => repeat (first | exact (Kd.S_reads' HO260.out).2.2 | (with_reducible refine Kd.C_alloc ?_ _) | (with_reducible refine Kd.C_drewN ?_ _) | (with_reducible refine Kd.C_drew ?_))); (case side2 => exact (Kd.S_reads' HO260.out).2.1); (case side3 => exact cR HO263); (case side4 => exact (Kd.R_reads' HO263.out).2.1); rintro e w22 ⟨rfl, hb⟩; refine ⟨_, rfl, ?_⟩; have n_ := aI (aM (Kd.S_below (by (with_reducible repeat (first | apply Kd.S_alloc | apply Kd.S_drewN | apply Kd.S_drew)); exact HO260.out) hb)) (aI (rB HO263 hb) (aI (kB BK256 hb) (sB HB hb))); clear HO260 HO263 BK256 HB; obtain ⟨HO260, HO263, BK256, HB⟩ := n_; (try clear hb); have hcz23_0 := cZ0 BK256; have hcz23_1 := cZ1 BK256; have hfz23_0 := fZ BK256 0; have hfz23_1 := fZ BK256 1) | ((with_reducible refine gate_callee (f := 8) rfl ?_); refine gL (some 16) Try.func8 #[.agg #[.slice A0_0 l0_0.length c0_0, .slice A0_1 l0_1.length c0_1]] ?_; (with_reducible refine (laws_toFs.calls k _ _ l0_0 _ _ l0_1 t265 t268 _ ?side1 ?side2 ?side3 ?side4 A9.out).mono ?_); (case side1 => exact cS HR0_0 HB); (case side2 => exact HC0_0.out); (case side3 => exact cS HR0_1 HB); (case side4 => exact HC0_1.out); rintro e w24 ⟨v266, v269, rfl, ho0, ho1, hb⟩; refine ⟨_, rfl, ?_⟩; have n_ := aI (aM (Kd.S_elder' (by (with_reducible repeat (first | apply Kd.S_alloc | apply Kd.S_drewN | apply Kd.S_drew)); exact HO260.out) (Kd.S_base ho0) hb)) (aI (eR HO263 ho1 hb) (aI (aM (Kd.S_lower (Kd.S_new' ho0 (Kd.S_lt (by (with_reducible repeat (first | apply Kd.S_alloc | apply Kd.S_drewN | apply Kd.S_drew)); exact HO260.out))) (zB HB))) (aI (aM (Kd.R_lower (Kd.R_new' ho1 (rL HO263)) (zB HB))) (aI (kB BK256 hb) (sB HB hb))))); clear HO260 HO263 BK256 HB; obtain ⟨HO260, HO263, HO267, HO270, BK256, HB⟩ := n_; (try clear hb ho0 ho1)) | ((with_reducible refine gate_dst (N := 5) rfl ?_); refine bE 5 #[.slice none 0 0, .slice none 0 0] 30 ?_; intro gb271 hg w25 hbox hb; have n_ := aI (aM (Kd.S_below (by (with_reducible repeat (first | apply Kd.S_alloc | apply Kd.S_drewN | apply Kd.S_drew)); exact HO260.out) hb)) (aI (rB HO263 hb) (aI (aM (Kd.S_below (by (with_reducible repeat (first | apply Kd.S_alloc | apply Kd.S_drewN | apply Kd.S_drew)); exact HO267.out) hb)) (aI (rB HO270 hb) (aI (kB BK256 hb) (aI (sB HB hb) (aI (aM hbox) (aI (gE HB hg) (aI (gE HB hg) (aI (nL BK256 hg) (nG BK256 hg)))))))))); clear HO260 HO263 HO267 HO270 BK256 HB; obtain ⟨HO260, HO263, HO267, HO270, BK256, HB, BK271, GW271, GE271, NB256_271, NB271_256⟩ := n_; (try clear hb hbox hg); obtain ⟨Ao26, co26, eo26⟩ := Kd.S_slice HO267.out; subst eo26; have hnb27 := NB271_256.out; have hnc27 := NB256_271.out; have hcz28_0 := cZ0 BK271; have hcz28_1 := cZ1 BK271; have hfz28_0 := fZ BK271 0; have hfz28_1 := fZ BK271 1; obtain ⟨Ao29, co29, eo29⟩ := Kd.R_slice HO270.out; subst eo29) | ((with_reducible refine gate_callee (f := 12) rfl ?_); refine gL (some 18) Try.func12 #[.agg #[.slice Ao26 t265.length co26, .slice Ao29 t268.length co29]] ?_; (with_reducible refine (impl_HomesOf.calls k _ _ t265 _ _ t268 t272 _ ?side1 ?side2 ?side3 ?side4 A10.out).mono ?_); (case side1 => refine (Kd.S_reads' (e := 40) (base := w.heap.size) (ok := fun k_ => (True ∧ some k_ ≠ (.slice Ao20 t258.length co20 : Value).ownBlock)) (n := t265.length) (c := co26) ?_).2.2; exact (by (with_reducible repeat (first | apply Kd.S_alloc | apply Kd.S_drewN | apply Kd.S_drew)); exact (Kd.S_mono (Kd.S_far (p := ⟨gb271, 1, none⟩) (Kd.S_far (p := ⟨gb271, 0, none⟩) (Kd.S_types HO267.out BK271.out (by decide)) (fun _ hk => hk.2) (.slice Ao26 t265.length co26)) (fun _ hk => hk.2) (.slice Ao29 t268.length co29)) (fun _ h_ => h_.1)))); (case side2 => exact (Kd.S_reads' HO267.out).2.1); (case side3 => refine (Kd.R_reads' (e := 9) (base := w.heap.size) (ok := fun k_ => (True ∧ some k_ ≠ (.slice Ao21 t261.length co21 : Value).ownBlock)) (n := t268.length) (c := co29) ?_).2.2; exact (rP (Kd.R_mono (Kd.R_far (p := ⟨gb271, 1, none⟩) (Kd.R_far (p := ⟨gb271, 0, none⟩) (Kd.R_types HO270.out BK271.out (by decide)) (fun _ hk => hk.2) (.slice Ao26 t265.length co26)) (fun _ hk => hk.2) (.slice Ao29 t268.length co29)) (fun _ h_ => h_.1)))); (case side4 => exact (Kd.R_reads' HO270.out).2.1); rintro e w30 ⟨rfl, hb⟩; refine ⟨_, rfl, ?_⟩; have n_ := aI (aM (Kd.S_below (by (with_reducible repeat (first | apply Kd.S_alloc | apply Kd.S_drewN | apply Kd.S_drew)); exact (Kd.S_mono (Kd.S_far (p := ⟨gb271, 1, none⟩) (Kd.S_far (p := ⟨gb271, 0, none⟩) (Kd.S_types HO260.out BK271.out (by decide)) (fun _ hk => hk.2) (.slice Ao26 t265.length co26)) (fun _ hk => hk.2) (.slice Ao29 t268.length co29)) (fun _ h_ => h_.1))) hb)) (aI (aM (Kd.R_below (rP (Kd.R_mono (Kd.R_far (p := ⟨gb271, 1, none⟩) (Kd.R_far (p := ⟨gb271, 0, none⟩) (Kd.R_types HO263.out BK271.out (by decide)) (fun _ hk => hk.2) (.slice Ao26 t265.length co26)) (fun _ hk => hk.2) (.slice Ao29 t268.length co29)) (fun _ h_ => h_.1))) hb)) (aI (aM (Kd.S_below (by (with_reducible repeat (first | apply Kd.S_alloc | apply Kd.S_drewN | apply Kd.S_drew)); exact (Kd.S_mono (Kd.S_far (p := ⟨gb271, 1, none⟩) (Kd.S_far (p := ⟨gb271, 0, none⟩) (Kd.S_types HO267.out BK271.out (by decide)) (fun _ hk => hk.2) (.slice Ao26 t265.length co26)) (fun _ hk => hk.2) (.slice Ao29 t268.length co29)) (fun _ h_ => h_.1))) hb)) (aI (aM (Kd.R_below (rP (Kd.R_mono (Kd.R_far (p := ⟨gb271, 1, none⟩) (Kd.R_far (p := ⟨gb271, 0, none⟩) (Kd.R_types HO270.out BK271.out (by decide)) (fun _ hk => hk.2) (.slice Ao26 t265.length co26)) (fun _ hk => hk.2) (.slice Ao29 t268.length co29)) (fun _ h_ => h_.1))) hb)) (aI (kB BK256 hb) (aI (aM (blk_below (g := gb271) (o := .cells #[.slice Ao26 t265.length co26, .slice Ao29 t268.length co29] 30 (0, 0)) (by (with_reducible repeat (first | apply bN | apply bD | apply bA)); refine blk_put (cs := #[.slice Ao26 t265.length co26, .slice none 0 0]) ?_ 1 _ rfl; (with_reducible repeat (first | apply bN | apply bD | apply bA)); refine blk_put (cs := #[.slice none 0 0, .slice none 0 0]) ?_ 0 _ rfl; (with_reducible repeat (first | apply bN | apply bD | apply bA)); exact BK271.out) hb)) (sB HB hb)))))); clear HO260 HO263 HO267 HO270 BK256 BK271 HB; obtain ⟨HO260, HO263, HO267, HO270, BK256, BK271, HB⟩ := n_; (try clear hb)))
   have n_ := aI (aM (Kd.S_drew HO260.out)) (aI (aM (Kd.R_drew HO263.out)) (aI (aM (Kd.S_drew HO267.out)) (aI (aM (Kd.R_drew HO270.out)) (aI (aM (blk_drew BK256.out)) (aI (aM (blk_drew BK271.out)) (aM (below_drew1 HB.out)))))))
   clear HO260 HO263 HO267 HO270 BK256 BK271 HB
   obtain ⟨HO260, HO263, HO267, HO270, BK256, BK271, HB⟩ := n_
   refine start_ (n := 5) (S := fun w' => w'.cell? ⟨gb271, 0, none⟩ = some (.slice Ao26 t265.length co26) ∧ w'.cell? ⟨gb271, 1, none⟩ = some (.slice Ao29 t268.length co29) ∧ w'.cell? ⟨gb256, 0, none⟩ = some (.slice A0_0 l0_0.length c0_0) ∧ w'.cell? ⟨gb256, 1, none⟩ = some (.slice A0_1 l0_1.length c0_1)) (ds := []) #[tF, tF, tF, tF, tF] (by kernel_rfl) rfl rfl ⟨(blk_cell BK271.out 0).trans rfl, (blk_cell BK271.out 1).trans rfl, (blk_cell BK256.out 0).trans rfl, (blk_cell BK256.out 1).trans rfl⟩ (fun hHeld => ?_)
   generalize w30.drew = w31 at HO260 HO263 HO267 HO270 BK256 BK271 HB hHeld ⊢
   refine take_ (i := 0) (N := some 22) (v := ?_) (a' := ?_) #[tT, tF, tF, tF, tF] rfl rfl (by kernel_rfl) (fun _ _ _ h => h) (Or.inl ⟨by rfl, ?_⟩) hHeld ?_ ?_
   rotate_left
   ·rintro w' ⟨s0, s1, s2, s3⟩
    go_simp
    with_reducible rfl
   rotate_left
   ·simp only [Act.put, List.setIfInBounds_toArray, List.set_cons_zero, List.set_cons_succ, i64_w, i32_w]
    rfl
   refine take_ (i := 1) (N := some 23) (v := ?_) (a' := ?_) #[tT, tT, tF, tF, tF] rfl rfl (by kernel_rfl) (fun _ _ _ h => h) (Or.inl ⟨by rfl, ?_⟩) hHeld ?_ ?_
   rotate_left
   ·rintro w' ⟨s0, s1, s2, s3⟩
    go_simp
    with_reducible rfl
   rotate_left
   ·simp only [Act.put, List.setIfInBounds_toArray, List.set_cons_zero, List.set_cons_succ, i64_w, i32_w]
    rfl
   refine one_ (i := 2) (N := some 24) #[tT, tT, tT, tF, tF] rfl rfl (by kernel_rfl) (by decide) (fun K hK => ?_)
   refine goes_ Try.func8 (by kernel_rfl) rfl #[.agg #[.slice A0_0 l0_0.length c0_0, .slice A0_1 l0_1.length c0_1]] (by rfl) rfl rfl (by (try simp only [List.map_toArray, List.map_cons, List.map_nil]); first | done | rfl | (simp only [List.length_drop, List.length_take]; rfl)) ?_
   with_reducible refine (laws_toFs.calls k _ _ l0_0 _ _ l0_1 t273 t276 _ ?side1 ?side2 ?side3 ?side4 A12.out).mono ?_
   (case side1 => exact cS HR0_0 HB)
   (case side2 => exact HC0_0.out)
   (case side3 => exact cS HR0_1 HB)
   (case side4 => exact HC0_1.out)
   rintro e w32 ⟨v274, v277, rfl, ho0, ho1, hb⟩
   refine ⟨_, rfl, ?_⟩
   have n_ := aI (aM (Kd.S_elder' (by (with_reducible repeat (first | apply Kd.S_alloc | apply Kd.S_drewN | apply Kd.S_drew)); exact HO260.out) (Kd.S_base ho0) hb)) (aI (eR HO263 ho1 hb) (aI (aM (Kd.S_elder' (by (with_reducible repeat (first | apply Kd.S_alloc | apply Kd.S_drewN | apply Kd.S_drew)); exact HO267.out) (Kd.S_base ho0) hb)) (aI (eR HO270 ho1 hb) (aI (aM (Kd.S_lower (Kd.S_new' (Kd.S_new' ho0 (Kd.S_lt (by (with_reducible repeat (first | apply Kd.S_alloc | apply Kd.S_drewN | apply Kd.S_drew)); exact HO260.out))) (Kd.S_lt (by (with_reducible repeat (first | apply Kd.S_alloc | apply Kd.S_drewN | apply Kd.S_drew)); exact HO267.out))) (zB HB))) (aI (aM (Kd.R_lower (Kd.R_new' (Kd.R_new' ho1 (rL HO263)) (rL HO270)) (zB HB))) (aI (kB BK256 hb) (aI (kB BK271 hb) (sB HB hb))))))))
   clear HO260 HO263 HO267 HO270 BK256 BK271 HB
   obtain ⟨HO260, HO263, HO267, HO270, HO275, HO278, BK256, BK271, HB⟩ := n_
   (try clear hb)
   (try clear hb2)
   (try clear hk)
   (try clear hi)
   (try clear ho0)
   (try clear ho1)
   obtain ⟨Ao33, co33, eo33⟩ := Kd.S_slice HO275.out
   (first | subst eo33 | (injection eo33 with f1_ f2_ f3_; have f4_ := f1_.symm; have f5_ := f3_.symm; clear f1_ f2_ f3_; subst f4_; subst f5_))
   obtain ⟨Ao34, co34, eo34⟩ := Kd.R_slice HO278.out
   (first | subst eo34 | (injection eo34 with f1_ f2_ f3_; have f4_ := f1_.symm; have f5_ := f3_.symm; clear f1_ f2_ f3_; subst f4_; subst f5_))
   refine hK.out _ _ ⟨(blk_cell BK271.out 0).trans rfl, (blk_cell BK271.out 1).trans rfl, (blk_cell BK256.out 0).trans rfl, (blk_cell BK256.out 1).trans rfl⟩ (fun hHeld => ?_)
   clear hK K
   refine norm_ (a' := ?_) ?_ ?_
   rotate_left
   ·show Act.put _ (some 24) _ = _
    simp only [Act.put, List.setIfInBounds_toArray, List.set_cons_zero, List.set_cons_succ, i64_w, i32_w]
    rfl
   refine one_ (i := 3) (N := some 25) #[tT, tT, tT, tT, tF] rfl rfl (by kernel_rfl) (by decide) (fun K hK => ?_)
   refine goes_ Try.func10 (by kernel_rfl) rfl #[.agg #[.slice Ao26 t265.length co26, .slice Ao29 t268.length co29], .agg #[.slice Ao33 t273.length co33, .slice Ao34 t276.length co34]] (by rfl) rfl rfl (by (try simp only [List.map_toArray, List.map_cons, List.map_nil]); first | done | rfl | (simp only [List.length_drop, List.length_take]; rfl)) ?_
   with_reducible refine (laws_eqFs.calls k _ _ t265 _ _ t268 _ _ t273 _ _ t276 true _ ?side1 ?side2 ?side3 ?side4 ?side5 ?side6 ?side7 ?side8 A13.out).mono ?_
   (case side1 => repeat (first | exact (Kd.S_reads' HO267.out).2.2 | (with_reducible refine Kd.C_alloc ?_ _) | (with_reducible refine Kd.C_drewN ?_ _) | (with_reducible refine Kd.C_drew ?_)))
   (case side2 => exact (Kd.S_reads' HO267.out).2.1)
   (case side3 => exact cR HO270)
   (case side4 => exact (Kd.R_reads' HO270.out).2.1)
   (case side5 => repeat (first | exact (Kd.S_reads' HO275.out).2.2 | (with_reducible refine Kd.C_alloc ?_ _) | (with_reducible refine Kd.C_drewN ?_ _) | (with_reducible refine Kd.C_drew ?_)))
   (case side6 => exact (Kd.S_reads' HO275.out).2.1)
   (case side7 => exact cR HO278)
   (case side8 => exact (Kd.R_reads' HO278.out).2.1)
   rintro e w35 ⟨rfl, hb⟩
   refine ⟨_, rfl, ?_⟩
   have n_ := aI (aM (Kd.S_below (by (with_reducible repeat (first | apply Kd.S_alloc | apply Kd.S_drewN | apply Kd.S_drew)); exact HO260.out) hb)) (aI (rB HO263 hb) (aI (aM (Kd.S_below (by (with_reducible repeat (first | apply Kd.S_alloc | apply Kd.S_drewN | apply Kd.S_drew)); exact HO267.out) hb)) (aI (rB HO270 hb) (aI (aM (Kd.S_below (by (with_reducible repeat (first | apply Kd.S_alloc | apply Kd.S_drewN | apply Kd.S_drew)); exact HO275.out) hb)) (aI (rB HO278 hb) (aI (kB BK256 hb) (aI (kB BK271 hb) (sB HB hb))))))))
   clear HO260 HO263 HO267 HO270 HO275 HO278 BK256 BK271 HB
   obtain ⟨HO260, HO263, HO267, HO270, HO275, HO278, BK256, BK271, HB⟩ := n_
   (try clear hb)
   (try clear hb2)
   (try clear hk)
   (try clear hi)
   refine hK.out _ _ ⟨(blk_cell BK271.out 0).trans rfl, (blk_cell BK271.out 1).trans rfl, (blk_cell BK256.out 0).trans rfl, (blk_cell BK256.out 1).trans rfl⟩ (fun hHeld => ?_)
   clear hK K
   refine norm_ (a' := ?_) ?_ ?_
   rotate_left
   ·show Act.put _ (some 25) _ = _
    simp only [Act.put, List.setIfInBounds_toArray, List.set_cons_zero, List.set_cons_succ, i64_w, i32_w]
    rfl
   refine pure_ (i := 4) (N := some 26) (v := ?_) (a' := ?_) #[tT, tT, tT, tT, tT] rfl rfl (by kernel_rfl) (fun _ _ _ h => h) (Or.inl ⟨by rfl, ?_⟩) ?_ ?_
   rotate_left
   ·intro w'
    go_simp
    with_reducible rfl
   rotate_left
   ·simp only [Act.put, List.setIfInBounds_toArray, List.set_cons_zero, List.set_cons_succ, i64_w, i32_w]
    rfl
   refine done_ (by kernel_rfl) ?_
   try go_wp2
   go_ret
   exact ⟨eW, bB⟩
  replace c14 := Bool.eq_false_iff.mpr c14
  subst c14
  rw [if_neg (show ¬ (false = true) by decide)] at H
  obtain rfl := Option.some.inj H
  go_enter Try.func4, Try.ntmps4
  try go_wp2_with (first | ((with_reducible refine gate_dst (N := 1) rfl ?_); refine bE 1 #[.slice A0_0 l0_0.length c0_0, .slice A0_1 l0_1.length c0_1] 25 ?_; intro gb256 hg w36 hbox hb; have n_ := aI (sB HB hb) (aI (aM hbox) (aI (gE HB hg) (gE HB hg))); clear HB; obtain ⟨HB, BK256, GW256, GE256⟩ := n_; (try clear hb hbox hg); have hcz37_0 := cZ0 BK256; have hcz37_1 := cZ1 BK256; have hfz37_0 := fZ BK256 0; have hfz37_1 := fZ BK256 1) | ((with_reducible refine gate_callee (f := 6) rfl ?_); refine gL (some 9) Try.func6 #[.agg #[.slice A0_0 l0_0.length c0_0, .slice A0_1 l0_1.length c0_1], .int .i64 1048576] ?_; (with_reducible refine (laws_szFs.calls k _ _ l0_0 _ _ l0_1 1048576 t257 _ ?side1 ?side2 ?side3 ?side4 A2.out).mono ?_); (case side1 => exact cS HR0_0 HB); (case side2 => exact HC0_0.out); (case side3 => exact cS HR0_1 HB); (case side4 => exact HC0_1.out); rintro e w38 ⟨rfl, hb⟩; refine ⟨_, rfl, ?_⟩; have n_ := aI (kB BK256 hb) (sB HB hb); clear BK256 HB; obtain ⟨BK256, HB⟩ := n_; (try clear hb); have hcz39_0 := cZ0 BK256; have hcz39_1 := cZ1 BK256; have hfz39_0 := fZ BK256 0; have hfz39_1 := fZ BK256 1) | ((with_reducible refine gate_callee (f := 8) rfl ?_); refine gL (some 13) Try.func8 #[.agg #[.slice A0_0 l0_0.length c0_0, .slice A0_1 l0_1.length c0_1]] ?_; (with_reducible refine (laws_toFs.calls k _ _ l0_0 _ _ l0_1 t258 t261 _ ?side1 ?side2 ?side3 ?side4 A7.out).mono ?_); (case side1 => exact cS HR0_0 HB); (case side2 => exact HC0_0.out); (case side3 => exact cS HR0_1 HB); (case side4 => exact HC0_1.out); rintro e w40 ⟨v259, v262, rfl, ho0, ho1, hb⟩; refine ⟨_, rfl, ?_⟩; have n_ := aI (aM (Kd.S_lower ho0 (zB HB))) (aI (lR HB ho1) (aI (kB BK256 hb) (sB HB hb))); clear BK256 HB; obtain ⟨HO260, HO263, BK256, HB⟩ := n_; (try clear hb ho0 ho1); obtain ⟨Ao41, co41, eo41⟩ := Kd.S_slice HO260.out; subst eo41; obtain ⟨Ao42, co42, eo42⟩ := Kd.R_slice HO263.out; subst eo42) | ((with_reducible refine gate_callee (f := 11) rfl ?_); refine gL (some 14) Try.func11 #[.agg #[.slice Ao41 t258.length co41, .slice Ao42 t261.length co42]] ?_; (with_reducible refine (spec_HomesOf.calls k _ _ t258 _ _ t261 t264 _ ?side1 ?side2 ?side3 ?side4 A8.out).mono ?_); (case side1 => repeat (first | exact (Kd.S_reads' HO260.out).2.2 | (with_reducible refine Kd.C_alloc ?_ _) | (with_reducible refine Kd.C_drewN ?_ _) | (with_reducible refine Kd.C_drew ?_))); (case side2 => exact (Kd.S_reads' HO260.out).2.1); (case side3 => exact cR HO263); (case side4 => exact (Kd.R_reads' HO263.out).2.1); rintro e w43 ⟨rfl, hb⟩; refine ⟨_, rfl, ?_⟩; have n_ := aI (aM (Kd.S_below (by (with_reducible repeat (first | apply Kd.S_alloc | apply Kd.S_drewN | apply Kd.S_drew)); exact HO260.out) hb)) (aI (rB HO263 hb) (aI (kB BK256 hb) (sB HB hb))); clear HO260 HO263 BK256 HB; obtain ⟨HO260, HO263, BK256, HB⟩ := n_; (try clear hb); have hcz44_0 := cZ0 BK256; have hcz44_1 := cZ1 BK256; have hfz44_0 := fZ BK256 0; have hfz44_1 := fZ BK256 1) | ((with_reducible refine gate_callee (f := 8) rfl ?_); refine gL (some 16) Try.func8 #[.agg #[.slice A0_0 l0_0.length c0_0, .slice A0_1 l0_1.length c0_1]] ?_; (with_reducible refine (laws_toFs.calls k _ _ l0_0 _ _ l0_1 t265 t268 _ ?side1 ?side2 ?side3 ?side4 A9.out).mono ?_); (case side1 => exact cS HR0_0 HB); (case side2 => exact HC0_0.out); (case side3 => exact cS HR0_1 HB); (case side4 => exact HC0_1.out); rintro e w45 ⟨v266, v269, rfl, ho0, ho1, hb⟩; refine ⟨_, rfl, ?_⟩; have n_ := aI (aM (Kd.S_elder' (by (with_reducible repeat (first | apply Kd.S_alloc | apply Kd.S_drewN | apply Kd.S_drew)); exact HO260.out) (Kd.S_base ho0) hb)) (aI (eR HO263 ho1 hb) (aI (aM (Kd.S_lower (Kd.S_new' ho0 (Kd.S_lt (by (with_reducible repeat (first | apply Kd.S_alloc | apply Kd.S_drewN | apply Kd.S_drew)); exact HO260.out))) (zB HB))) (aI (aM (Kd.R_lower (Kd.R_new' ho1 (rL HO263)) (zB HB))) (aI (kB BK256 hb) (sB HB hb))))); clear HO260 HO263 BK256 HB; obtain ⟨HO260, HO263, HO267, HO270, BK256, HB⟩ := n_; (try clear hb ho0 ho1)) | ((with_reducible refine gate_dst (N := 5) rfl ?_); refine bE 5 #[.slice none 0 0, .slice none 0 0] 30 ?_; intro gb271 hg w46 hbox hb; have n_ := aI (aM (Kd.S_below (by (with_reducible repeat (first | apply Kd.S_alloc | apply Kd.S_drewN | apply Kd.S_drew)); exact HO260.out) hb)) (aI (rB HO263 hb) (aI (aM (Kd.S_below (by (with_reducible repeat (first | apply Kd.S_alloc | apply Kd.S_drewN | apply Kd.S_drew)); exact HO267.out) hb)) (aI (rB HO270 hb) (aI (kB BK256 hb) (aI (sB HB hb) (aI (aM hbox) (aI (gE HB hg) (aI (gE HB hg) (aI (nL BK256 hg) (nG BK256 hg)))))))))); clear HO260 HO263 HO267 HO270 BK256 HB; obtain ⟨HO260, HO263, HO267, HO270, BK256, HB, BK271, GW271, GE271, NB256_271, NB271_256⟩ := n_; (try clear hb hbox hg); obtain ⟨Ao47, co47, eo47⟩ := Kd.S_slice HO267.out; subst eo47; have hnb48 := NB271_256.out; have hnc48 := NB256_271.out; have hcz49_0 := cZ0 BK271; have hcz49_1 := cZ1 BK271; have hfz49_0 := fZ BK271 0; have hfz49_1 := fZ BK271 1; obtain ⟨Ao50, co50, eo50⟩ := Kd.R_slice HO270.out; subst eo50) | ((with_reducible refine gate_callee (f := 12) rfl ?_); refine gL (some 18) Try.func12 #[.agg #[.slice Ao47 t265.length co47, .slice Ao50 t268.length co50]] ?_; (with_reducible refine (impl_HomesOf.calls k _ _ t265 _ _ t268 t272 _ ?side1 ?side2 ?side3 ?side4 A10.out).mono ?_); (case side1 => refine (Kd.S_reads' (e := 40) (base := w.heap.size) (ok := fun k_ => (True ∧ some k_ ≠ (.slice Ao41 t258.length co41 : Value).ownBlock)) (n := t265.length) (c := co47) ?_).2.2; exact (by (with_reducible repeat (first | apply Kd.S_alloc | apply Kd.S_drewN | apply Kd.S_drew)); exact (Kd.S_mono (Kd.S_far (p := ⟨gb271, 1, none⟩) (Kd.S_far (p := ⟨gb271, 0, none⟩) (Kd.S_types HO267.out BK271.out (by decide)) (fun _ hk => hk.2) (.slice Ao47 t265.length co47)) (fun _ hk => hk.2) (.slice Ao50 t268.length co50)) (fun _ h_ => h_.1)))); (case side2 => exact (Kd.S_reads' HO267.out).2.1); (case side3 => refine (Kd.R_reads' (e := 9) (base := w.heap.size) (ok := fun k_ => (True ∧ some k_ ≠ (.slice Ao42 t261.length co42 : Value).ownBlock)) (n := t268.length) (c := co50) ?_).2.2; exact (rP (Kd.R_mono (Kd.R_far (p := ⟨gb271, 1, none⟩) (Kd.R_far (p := ⟨gb271, 0, none⟩) (Kd.R_types HO270.out BK271.out (by decide)) (fun _ hk => hk.2) (.slice Ao47 t265.length co47)) (fun _ hk => hk.2) (.slice Ao50 t268.length co50)) (fun _ h_ => h_.1)))); (case side4 => exact (Kd.R_reads' HO270.out).2.1); rintro e w51 ⟨rfl, hb⟩; refine ⟨_, rfl, ?_⟩; have n_ := aI (aM (Kd.S_below (by (with_reducible repeat (first | apply Kd.S_alloc | apply Kd.S_drewN | apply Kd.S_drew)); exact (Kd.S_mono (Kd.S_far (p := ⟨gb271, 1, none⟩) (Kd.S_far (p := ⟨gb271, 0, none⟩) (Kd.S_types HO260.out BK271.out (by decide)) (fun _ hk => hk.2) (.slice Ao47 t265.length co47)) (fun _ hk => hk.2) (.slice Ao50 t268.length co50)) (fun _ h_ => h_.1))) hb)) (aI (aM (Kd.R_below (rP (Kd.R_mono (Kd.R_far (p := ⟨gb271, 1, none⟩) (Kd.R_far (p := ⟨gb271, 0, none⟩) (Kd.R_types HO263.out BK271.out (by decide)) (fun _ hk => hk.2) (.slice Ao47 t265.length co47)) (fun _ hk => hk.2) (.slice Ao50 t268.length co50)) (fun _ h_ => h_.1))) hb)) (aI (aM (Kd.S_below (by (with_reducible repeat (first | apply Kd.S_alloc | apply Kd.S_drewN | apply Kd.S_drew)); exact (Kd.S_mono (Kd.S_far (p := ⟨gb271, 1, none⟩) (Kd.S_far (p := ⟨gb271, 0, none⟩) (Kd.S_types HO267.out BK271.out (by decide)) (fun _ hk => hk.2) (.slice Ao47 t265.length co47)) (fun _ hk => hk.2) (.slice Ao50 t268.length co50)) (fun _ h_ => h_.1))) hb)) (aI (aM (Kd.R_below (rP (Kd.R_mono (Kd.R_far (p := ⟨gb271, 1, none⟩) (Kd.R_far (p := ⟨gb271, 0, none⟩) (Kd.R_types HO270.out BK271.out (by decide)) (fun _ hk => hk.2) (.slice Ao47 t265.length co47)) (fun _ hk => hk.2) (.slice Ao50 t268.length co50)) (fun _ h_ => h_.1))) hb)) (aI (kB BK256 hb) (aI (aM (blk_below (g := gb271) (o := .cells #[.slice Ao47 t265.length co47, .slice Ao50 t268.length co50] 30 (0, 0)) (by (with_reducible repeat (first | apply bN | apply bD | apply bA)); refine blk_put (cs := #[.slice Ao47 t265.length co47, .slice none 0 0]) ?_ 1 _ rfl; (with_reducible repeat (first | apply bN | apply bD | apply bA)); refine blk_put (cs := #[.slice none 0 0, .slice none 0 0]) ?_ 0 _ rfl; (with_reducible repeat (first | apply bN | apply bD | apply bA)); exact BK271.out) hb)) (sB HB hb)))))); clear HO260 HO263 HO267 HO270 BK256 BK271 HB; obtain ⟨HO260, HO263, HO267, HO270, BK256, BK271, HB⟩ := n_; (try clear hb)))
  have n_ := aI (aM (Kd.S_drew HO260.out)) (aI (aM (Kd.R_drew HO263.out)) (aI (aM (Kd.S_drew HO267.out)) (aI (aM (Kd.R_drew HO270.out)) (aI (aM (blk_drew BK256.out)) (aI (aM (blk_drew BK271.out)) (aM (below_drew1 HB.out)))))))
  clear HO260 HO263 HO267 HO270 BK256 BK271 HB
  obtain ⟨HO260, HO263, HO267, HO270, BK256, BK271, HB⟩ := n_
  refine start_ (n := 5) (S := fun w' => w'.cell? ⟨gb271, 0, none⟩ = some (.slice Ao47 t265.length co47) ∧ w'.cell? ⟨gb271, 1, none⟩ = some (.slice Ao50 t268.length co50) ∧ w'.cell? ⟨gb256, 0, none⟩ = some (.slice A0_0 l0_0.length c0_0) ∧ w'.cell? ⟨gb256, 1, none⟩ = some (.slice A0_1 l0_1.length c0_1)) (ds := []) #[tF, tF, tF, tF, tF] (by kernel_rfl) rfl rfl ⟨(blk_cell BK271.out 0).trans rfl, (blk_cell BK271.out 1).trans rfl, (blk_cell BK256.out 0).trans rfl, (blk_cell BK256.out 1).trans rfl⟩ (fun hHeld => ?_)
  generalize w51.drew = w52 at HO260 HO263 HO267 HO270 BK256 BK271 HB hHeld ⊢
  refine take_ (i := 0) (N := some 22) (v := ?_) (a' := ?_) #[tT, tF, tF, tF, tF] rfl rfl (by kernel_rfl) (fun _ _ _ h => h) (Or.inl ⟨by rfl, ?_⟩) hHeld ?_ ?_
  rotate_left
  ·rintro w' ⟨s0, s1, s2, s3⟩
   go_simp
   with_reducible rfl
  rotate_left
  ·simp only [Act.put, List.setIfInBounds_toArray, List.set_cons_zero, List.set_cons_succ, i64_w, i32_w]
   rfl
  refine take_ (i := 1) (N := some 23) (v := ?_) (a' := ?_) #[tT, tT, tF, tF, tF] rfl rfl (by kernel_rfl) (fun _ _ _ h => h) (Or.inl ⟨by rfl, ?_⟩) hHeld ?_ ?_
  rotate_left
  ·rintro w' ⟨s0, s1, s2, s3⟩
   go_simp
   with_reducible rfl
  rotate_left
  ·simp only [Act.put, List.setIfInBounds_toArray, List.set_cons_zero, List.set_cons_succ, i64_w, i32_w]
   rfl
  refine one_ (i := 2) (N := some 24) #[tT, tT, tT, tF, tF] rfl rfl (by kernel_rfl) (by decide) (fun K hK => ?_)
  refine goes_ Try.func8 (by kernel_rfl) rfl #[.agg #[.slice A0_0 l0_0.length c0_0, .slice A0_1 l0_1.length c0_1]] (by rfl) rfl rfl (by (try simp only [List.map_toArray, List.map_cons, List.map_nil]); first | done | rfl | (simp only [List.length_drop, List.length_take]; rfl)) ?_
  with_reducible refine (laws_toFs.calls k _ _ l0_0 _ _ l0_1 t273 t276 _ ?side1 ?side2 ?side3 ?side4 A12.out).mono ?_
  (case side1 => exact cS HR0_0 HB)
  (case side2 => exact HC0_0.out)
  (case side3 => exact cS HR0_1 HB)
  (case side4 => exact HC0_1.out)
  rintro e w53 ⟨v274, v277, rfl, ho0, ho1, hb⟩
  refine ⟨_, rfl, ?_⟩
  have n_ := aI (aM (Kd.S_elder' (by (with_reducible repeat (first | apply Kd.S_alloc | apply Kd.S_drewN | apply Kd.S_drew)); exact HO260.out) (Kd.S_base ho0) hb)) (aI (eR HO263 ho1 hb) (aI (aM (Kd.S_elder' (by (with_reducible repeat (first | apply Kd.S_alloc | apply Kd.S_drewN | apply Kd.S_drew)); exact HO267.out) (Kd.S_base ho0) hb)) (aI (eR HO270 ho1 hb) (aI (aM (Kd.S_lower (Kd.S_new' (Kd.S_new' ho0 (Kd.S_lt (by (with_reducible repeat (first | apply Kd.S_alloc | apply Kd.S_drewN | apply Kd.S_drew)); exact HO260.out))) (Kd.S_lt (by (with_reducible repeat (first | apply Kd.S_alloc | apply Kd.S_drewN | apply Kd.S_drew)); exact HO267.out))) (zB HB))) (aI (aM (Kd.R_lower (Kd.R_new' (Kd.R_new' ho1 (rL HO263)) (rL HO270)) (zB HB))) (aI (kB BK256 hb) (aI (kB BK271 hb) (sB HB hb))))))))
  clear HO260 HO263 HO267 HO270 BK256 BK271 HB
  obtain ⟨HO260, HO263, HO267, HO270, HO275, HO278, BK256, BK271, HB⟩ := n_
  (try clear hb)
  (try clear hb2)
  (try clear hk)
  (try clear hi)
  (try clear ho0)
  (try clear ho1)
  obtain ⟨Ao54, co54, eo54⟩ := Kd.S_slice HO275.out
  (first | subst eo54 | (injection eo54 with f1_ f2_ f3_; have f4_ := f1_.symm; have f5_ := f3_.symm; clear f1_ f2_ f3_; subst f4_; subst f5_))
  obtain ⟨Ao55, co55, eo55⟩ := Kd.R_slice HO278.out
  (first | subst eo55 | (injection eo55 with f1_ f2_ f3_; have f4_ := f1_.symm; have f5_ := f3_.symm; clear f1_ f2_ f3_; subst f4_; subst f5_))
  refine hK.out _ _ ⟨(blk_cell BK271.out 0).trans rfl, (blk_cell BK271.out 1).trans rfl, (blk_cell BK256.out 0).trans rfl, (blk_cell BK256.out 1).trans rfl⟩ (fun hHeld => ?_)
  clear hK K
  refine norm_ (a' := ?_) ?_ ?_
  rotate_left
  ·show Act.put _ (some 24) _ = _
   simp only [Act.put, List.setIfInBounds_toArray, List.set_cons_zero, List.set_cons_succ, i64_w, i32_w]
   rfl
  refine one_ (i := 3) (N := some 25) #[tT, tT, tT, tT, tF] rfl rfl (by kernel_rfl) (by decide) (fun K hK => ?_)
  refine goes_ Try.func10 (by kernel_rfl) rfl #[.agg #[.slice Ao47 t265.length co47, .slice Ao50 t268.length co50], .agg #[.slice Ao54 t273.length co54, .slice Ao55 t276.length co55]] (by rfl) rfl rfl (by (try simp only [List.map_toArray, List.map_cons, List.map_nil]); first | done | rfl | (simp only [List.length_drop, List.length_take]; rfl)) ?_
  with_reducible refine (laws_eqFs.calls k _ _ t265 _ _ t268 _ _ t273 _ _ t276 false _ ?side1 ?side2 ?side3 ?side4 ?side5 ?side6 ?side7 ?side8 A13.out).mono ?_
  (case side1 => repeat (first | exact (Kd.S_reads' HO267.out).2.2 | (with_reducible refine Kd.C_alloc ?_ _) | (with_reducible refine Kd.C_drewN ?_ _) | (with_reducible refine Kd.C_drew ?_)))
  (case side2 => exact (Kd.S_reads' HO267.out).2.1)
  (case side3 => exact cR HO270)
  (case side4 => exact (Kd.R_reads' HO270.out).2.1)
  (case side5 => repeat (first | exact (Kd.S_reads' HO275.out).2.2 | (with_reducible refine Kd.C_alloc ?_ _) | (with_reducible refine Kd.C_drewN ?_ _) | (with_reducible refine Kd.C_drew ?_)))
  (case side6 => exact (Kd.S_reads' HO275.out).2.1)
  (case side7 => exact cR HO278)
  (case side8 => exact (Kd.R_reads' HO278.out).2.1)
  rintro e w56 ⟨rfl, hb⟩
  refine ⟨_, rfl, ?_⟩
  have n_ := aI (aM (Kd.S_below (by (with_reducible repeat (first | apply Kd.S_alloc | apply Kd.S_drewN | apply Kd.S_drew)); exact HO260.out) hb)) (aI (rB HO263 hb) (aI (aM (Kd.S_below (by (with_reducible repeat (first | apply Kd.S_alloc | apply Kd.S_drewN | apply Kd.S_drew)); exact HO267.out) hb)) (aI (rB HO270 hb) (aI (aM (Kd.S_below (by (with_reducible repeat (first | apply Kd.S_alloc | apply Kd.S_drewN | apply Kd.S_drew)); exact HO275.out) hb)) (aI (rB HO278 hb) (aI (kB BK256 hb) (aI (kB BK271 hb) (sB HB hb))))))))
  clear HO260 HO263 HO267 HO270 HO275 HO278 BK256 BK271 HB
  obtain ⟨HO260, HO263, HO267, HO270, HO275, HO278, BK256, BK271, HB⟩ := n_
  (try clear hb)
  (try clear hb2)
  (try clear hk)
  (try clear hi)
  refine hK.out _ _ ⟨(blk_cell BK271.out 0).trans rfl, (blk_cell BK271.out 1).trans rfl, (blk_cell BK256.out 0).trans rfl, (blk_cell BK256.out 1).trans rfl⟩ (fun hHeld => ?_)
  clear hK K
  refine norm_ (a' := ?_) ?_ ?_
  rotate_left
  ·show Act.put _ (some 25) _ = _
   simp only [Act.put, List.setIfInBounds_toArray, List.set_cons_zero, List.set_cons_succ, i64_w, i32_w]
   rfl
  refine pure_ (i := 4) (N := some 26) (v := ?_) (a' := ?_) #[tT, tT, tT, tT, tT] rfl rfl (by kernel_rfl) (fun _ _ _ h => h) (Or.inl ⟨by rfl, ?_⟩) ?_ ?_
  rotate_left
  ·intro w'
   go_simp
   with_reducible rfl
  rotate_left
  ·simp only [Act.put, List.setIfInBounds_toArray, List.set_cons_zero, List.set_cons_succ, i64_w, i32_w]
   rfl
  refine done_ (by kernel_rfl) ?_
  try go_wp2
  go_ret
  exact ⟨eW, bB⟩
 rw [if_neg c11] at H
 have c11b0 : (t272 == t264) = false := beq_eq_false_iff_ne.mpr c11
 have c11b1 : (t272 != t264) = true := bne_iff_ne.mpr c11
 obtain rfl := Option.some.inj H
 go_enter Try.func4, Try.ntmps4
 go_wp2_with (first | ((with_reducible refine gate_dst (N := 1) rfl ?_); refine bE 1 #[.slice A0_0 l0_0.length c0_0, .slice A0_1 l0_1.length c0_1] 25 ?_; intro gb256 hg w57 hbox hb; have n_ := aI (sB HB hb) (aI (aM hbox) (aI (gE HB hg) (gE HB hg))); clear HB; obtain ⟨HB, BK256, GW256, GE256⟩ := n_; (try clear hb hbox hg); have hcz58_0 := cZ0 BK256; have hcz58_1 := cZ1 BK256; have hfz58_0 := fZ BK256 0; have hfz58_1 := fZ BK256 1) | ((with_reducible refine gate_callee (f := 6) rfl ?_); refine gL (some 9) Try.func6 #[.agg #[.slice A0_0 l0_0.length c0_0, .slice A0_1 l0_1.length c0_1], .int .i64 1048576] ?_; (with_reducible refine (laws_szFs.calls k _ _ l0_0 _ _ l0_1 1048576 t257 _ ?side1 ?side2 ?side3 ?side4 A2.out).mono ?_); (case side1 => exact cS HR0_0 HB); (case side2 => exact HC0_0.out); (case side3 => exact cS HR0_1 HB); (case side4 => exact HC0_1.out); rintro e w59 ⟨rfl, hb⟩; refine ⟨_, rfl, ?_⟩; have n_ := aI (kB BK256 hb) (sB HB hb); clear BK256 HB; obtain ⟨BK256, HB⟩ := n_; (try clear hb); have hcz60_0 := cZ0 BK256; have hcz60_1 := cZ1 BK256; have hfz60_0 := fZ BK256 0; have hfz60_1 := fZ BK256 1) | ((with_reducible refine gate_callee (f := 8) rfl ?_); refine gL (some 13) Try.func8 #[.agg #[.slice A0_0 l0_0.length c0_0, .slice A0_1 l0_1.length c0_1]] ?_; (with_reducible refine (laws_toFs.calls k _ _ l0_0 _ _ l0_1 t258 t261 _ ?side1 ?side2 ?side3 ?side4 A7.out).mono ?_); (case side1 => exact cS HR0_0 HB); (case side2 => exact HC0_0.out); (case side3 => exact cS HR0_1 HB); (case side4 => exact HC0_1.out); rintro e w61 ⟨v259, v262, rfl, ho0, ho1, hb⟩; refine ⟨_, rfl, ?_⟩; have n_ := aI (aM (Kd.S_lower ho0 (zB HB))) (aI (lR HB ho1) (aI (kB BK256 hb) (sB HB hb))); clear BK256 HB; obtain ⟨HO260, HO263, BK256, HB⟩ := n_; (try clear hb ho0 ho1); obtain ⟨Ao62, co62, eo62⟩ := Kd.S_slice HO260.out; subst eo62; obtain ⟨Ao63, co63, eo63⟩ := Kd.R_slice HO263.out; subst eo63) | ((with_reducible refine gate_callee (f := 11) rfl ?_); refine gL (some 14) Try.func11 #[.agg #[.slice Ao62 t258.length co62, .slice Ao63 t261.length co63]] ?_; (with_reducible refine (spec_HomesOf.calls k _ _ t258 _ _ t261 t264 _ ?side1 ?side2 ?side3 ?side4 A8.out).mono ?_); (case side1 => repeat (first | exact (Kd.S_reads' HO260.out).2.2 | (with_reducible refine Kd.C_alloc ?_ _) | (with_reducible refine Kd.C_drewN ?_ _) | (with_reducible refine Kd.C_drew ?_))); (case side2 => exact (Kd.S_reads' HO260.out).2.1); (case side3 => exact cR HO263); (case side4 => exact (Kd.R_reads' HO263.out).2.1); rintro e w64 ⟨rfl, hb⟩; refine ⟨_, rfl, ?_⟩; have n_ := aI (aM (Kd.S_below (by (with_reducible repeat (first | apply Kd.S_alloc | apply Kd.S_drewN | apply Kd.S_drew)); exact HO260.out) hb)) (aI (rB HO263 hb) (aI (kB BK256 hb) (sB HB hb))); clear HO260 HO263 BK256 HB; obtain ⟨HO260, HO263, BK256, HB⟩ := n_; (try clear hb); have hcz65_0 := cZ0 BK256; have hcz65_1 := cZ1 BK256; have hfz65_0 := fZ BK256 0; have hfz65_1 := fZ BK256 1) | ((with_reducible refine gate_callee (f := 8) rfl ?_); refine gL (some 16) Try.func8 #[.agg #[.slice A0_0 l0_0.length c0_0, .slice A0_1 l0_1.length c0_1]] ?_; (with_reducible refine (laws_toFs.calls k _ _ l0_0 _ _ l0_1 t265 t268 _ ?side1 ?side2 ?side3 ?side4 A9.out).mono ?_); (case side1 => exact cS HR0_0 HB); (case side2 => exact HC0_0.out); (case side3 => exact cS HR0_1 HB); (case side4 => exact HC0_1.out); rintro e w66 ⟨v266, v269, rfl, ho0, ho1, hb⟩; refine ⟨_, rfl, ?_⟩; have n_ := aI (aM (Kd.S_elder' (by (with_reducible repeat (first | apply Kd.S_alloc | apply Kd.S_drewN | apply Kd.S_drew)); exact HO260.out) (Kd.S_base ho0) hb)) (aI (eR HO263 ho1 hb) (aI (aM (Kd.S_lower (Kd.S_new' ho0 (Kd.S_lt (by (with_reducible repeat (first | apply Kd.S_alloc | apply Kd.S_drewN | apply Kd.S_drew)); exact HO260.out))) (zB HB))) (aI (aM (Kd.R_lower (Kd.R_new' ho1 (rL HO263)) (zB HB))) (aI (kB BK256 hb) (sB HB hb))))); clear HO260 HO263 BK256 HB; obtain ⟨HO260, HO263, HO267, HO270, BK256, HB⟩ := n_; (try clear hb ho0 ho1)) | ((with_reducible refine gate_dst (N := 5) rfl ?_); refine bE 5 #[.slice none 0 0, .slice none 0 0] 30 ?_; intro gb271 hg w67 hbox hb; have n_ := aI (aM (Kd.S_below (by (with_reducible repeat (first | apply Kd.S_alloc | apply Kd.S_drewN | apply Kd.S_drew)); exact HO260.out) hb)) (aI (rB HO263 hb) (aI (aM (Kd.S_below (by (with_reducible repeat (first | apply Kd.S_alloc | apply Kd.S_drewN | apply Kd.S_drew)); exact HO267.out) hb)) (aI (rB HO270 hb) (aI (kB BK256 hb) (aI (sB HB hb) (aI (aM hbox) (aI (gE HB hg) (aI (gE HB hg) (aI (nL BK256 hg) (nG BK256 hg)))))))))); clear HO260 HO263 HO267 HO270 BK256 HB; obtain ⟨HO260, HO263, HO267, HO270, BK256, HB, BK271, GW271, GE271, NB256_271, NB271_256⟩ := n_; (try clear hb hbox hg); obtain ⟨Ao68, co68, eo68⟩ := Kd.S_slice HO267.out; subst eo68; have hnb69 := NB271_256.out; have hnc69 := NB256_271.out; have hcz70_0 := cZ0 BK271; have hcz70_1 := cZ1 BK271; have hfz70_0 := fZ BK271 0; have hfz70_1 := fZ BK271 1; obtain ⟨Ao71, co71, eo71⟩ := Kd.R_slice HO270.out; subst eo71) | ((with_reducible refine gate_callee (f := 12) rfl ?_); refine gL (some 18) Try.func12 #[.agg #[.slice Ao68 t265.length co68, .slice Ao71 t268.length co71]] ?_; (with_reducible refine (impl_HomesOf.calls k _ _ t265 _ _ t268 t272 _ ?side1 ?side2 ?side3 ?side4 A10.out).mono ?_); (case side1 => refine (Kd.S_reads' (e := 40) (base := w.heap.size) (ok := fun k_ => (True ∧ some k_ ≠ (.slice Ao62 t258.length co62 : Value).ownBlock)) (n := t265.length) (c := co68) ?_).2.2; exact (by (with_reducible repeat (first | apply Kd.S_alloc | apply Kd.S_drewN | apply Kd.S_drew)); exact (Kd.S_mono (Kd.S_far (p := ⟨gb271, 1, none⟩) (Kd.S_far (p := ⟨gb271, 0, none⟩) (Kd.S_types HO267.out BK271.out (by decide)) (fun _ hk => hk.2) (.slice Ao68 t265.length co68)) (fun _ hk => hk.2) (.slice Ao71 t268.length co71)) (fun _ h_ => h_.1)))); (case side2 => exact (Kd.S_reads' HO267.out).2.1); (case side3 => refine (Kd.R_reads' (e := 9) (base := w.heap.size) (ok := fun k_ => (True ∧ some k_ ≠ (.slice Ao63 t261.length co63 : Value).ownBlock)) (n := t268.length) (c := co71) ?_).2.2; exact (rP (Kd.R_mono (Kd.R_far (p := ⟨gb271, 1, none⟩) (Kd.R_far (p := ⟨gb271, 0, none⟩) (Kd.R_types HO270.out BK271.out (by decide)) (fun _ hk => hk.2) (.slice Ao68 t265.length co68)) (fun _ hk => hk.2) (.slice Ao71 t268.length co71)) (fun _ h_ => h_.1)))); (case side4 => exact (Kd.R_reads' HO270.out).2.1); rintro e w72 ⟨rfl, hb⟩; refine ⟨_, rfl, ?_⟩; have n_ := aI (aM (Kd.S_below (by (with_reducible repeat (first | apply Kd.S_alloc | apply Kd.S_drewN | apply Kd.S_drew)); exact (Kd.S_mono (Kd.S_far (p := ⟨gb271, 1, none⟩) (Kd.S_far (p := ⟨gb271, 0, none⟩) (Kd.S_types HO260.out BK271.out (by decide)) (fun _ hk => hk.2) (.slice Ao68 t265.length co68)) (fun _ hk => hk.2) (.slice Ao71 t268.length co71)) (fun _ h_ => h_.1))) hb)) (aI (aM (Kd.R_below (rP (Kd.R_mono (Kd.R_far (p := ⟨gb271, 1, none⟩) (Kd.R_far (p := ⟨gb271, 0, none⟩) (Kd.R_types HO263.out BK271.out (by decide)) (fun _ hk => hk.2) (.slice Ao68 t265.length co68)) (fun _ hk => hk.2) (.slice Ao71 t268.length co71)) (fun _ h_ => h_.1))) hb)) (aI (aM (Kd.S_below (by (with_reducible repeat (first | apply Kd.S_alloc | apply Kd.S_drewN | apply Kd.S_drew)); exact (Kd.S_mono (Kd.S_far (p := ⟨gb271, 1, none⟩) (Kd.S_far (p := ⟨gb271, 0, none⟩) (Kd.S_types HO267.out BK271.out (by decide)) (fun _ hk => hk.2) (.slice Ao68 t265.length co68)) (fun _ hk => hk.2) (.slice Ao71 t268.length co71)) (fun _ h_ => h_.1))) hb)) (aI (aM (Kd.R_below (rP (Kd.R_mono (Kd.R_far (p := ⟨gb271, 1, none⟩) (Kd.R_far (p := ⟨gb271, 0, none⟩) (Kd.R_types HO270.out BK271.out (by decide)) (fun _ hk => hk.2) (.slice Ao68 t265.length co68)) (fun _ hk => hk.2) (.slice Ao71 t268.length co71)) (fun _ h_ => h_.1))) hb)) (aI (kB BK256 hb) (aI (aM (blk_below (g := gb271) (o := .cells #[.slice Ao68 t265.length co68, .slice Ao71 t268.length co71] 30 (0, 0)) (by (with_reducible repeat (first | apply bN | apply bD | apply bA)); refine blk_put (cs := #[.slice Ao68 t265.length co68, .slice none 0 0]) ?_ 1 _ rfl; (with_reducible repeat (first | apply bN | apply bD | apply bA)); refine blk_put (cs := #[.slice none 0 0, .slice none 0 0]) ?_ 0 _ rfl; (with_reducible repeat (first | apply bN | apply bD | apply bA)); exact BK271.out) hb)) (sB HB hb)))))); clear HO260 HO263 HO267 HO270 BK256 BK271 HB; obtain ⟨HO260, HO263, HO267, HO270, BK256, BK271, HB⟩ := n_; (try clear hb)))
 go_ret
 exact ⟨eW, bB⟩

/-- THE ONE PURE STATEMENT of laws_FnExactHomesOf. -/
def laws_FnExactHomesOf.Pure : Prop := ∀ (l0_0 : List (S53)) (l0_1 : List ByteArray), (l0_0.length ≤ maxLen ∧ ∀ x_ ∈ l0_0, ((Lit.int .i64 x_.f0).wf = true ∧ (Lit.int .i64 x_.f1).wf = true ∧ (Lit.int .i64 x_.f2).wf = true ∧ (Lit.int .i64 x_.f3).wf = true ∧ (x_.f4.length ≤ maxLen ∧ ∀ y_ ∈ x_.f4, (Lit.int .i64 y_).wf = true))) → (l0_1.length ≤ maxLen ∧ ∀ x_ ∈ l0_1, x_.size ≤ maxLen) → ∃ k, laws_FnExactHomesOf.f k l0_0 l0_1 = some true

end Go.Proofs.Ytapliilimfgdjaa.PFnExactHomesOf
