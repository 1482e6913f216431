-- Written by xprint.py, a program of this session over the kit's print. Not trusted: Lean checks it.
import Derived.Test.YtgmpdkefegofhaaPFnExactHomeOfx0
import Derived.Test.YtgmpdkefegofhaaPFnExactHomeOfx1
import Derived.Test.YtgmpdkefegofhaaPFnExactHomeOfx2
import Derived.Test.YtgmpdkefegofhaaPFnExactHomeOfx3
import Derived.Test.YtgmpdkefegofhaaPFnExactHomeOfx4
import Derived.Test.YtgmpdkefegofhaaPFnExactHomeOfx5
namespace Go.Proofs.Ytgmpdkefegofhaa.PFnExactHomeOf
open Go.RowKit Go.Proofs.YtgmpdkefegofhaaW.PrintWords Go.Proofs.YtgmpdkefegofhaaW.PrintLast Go.Proofs.YtgmpdkefegofhaaW.PrintMore
attribute [local go_sem] max2_int min2_int max_two min_two max_three min_three max_four min_four   -- for this text's walks alone
set_option linter.unusedVariables false
set_option linter.unusedSimpArgs false

/-! ### laws_FnExactHomeOf: function 5 -/
mutual
def laws_FnExactHomeOf.j0 : Nat → Int → List ByteArray → List (S111) → Option (Bool)
 | 0, _, _, _ => none
 | k + 1, x1, x194000, x194001 => (laws_toDisk.f k x194000 x194001).bind fun bt195 => ((spec_HomeOf.f k bt195.1 bt195.2 x1).bind fun t201 => ((laws_toDisk.f k x194000 x194001).bind fun bt204 => ((impl_HomeOf.f k bt204.1 bt204.2 x1).bind fun t211 => ((laws_eqStringS.f k t211 t201).bind fun t214 => (if t214 = true then (laws_FnExactHomeOf.j1 k x1 t201 t211 x194000 x194001 bt204.1 bt204.2) else (some false))))))
def laws_FnExactHomeOf.j1 : Nat → Int → List ByteArray → List ByteArray → List ByteArray → List (S111) → List ByteArray → List (S65) → Option (Bool)
 | 0, _, _, _, _, _, _, _ => none
 | k + 1, x1, x6, x8, x194000, x194001, x211000, x211001 => (laws_toDisk.f k x194000 x194001).bind fun bt215 => ((laws_eqDisk.f k x211000 x211001 bt215.1 bt215.2).bind fun t221 => (if t221 = true then (laws_FnExactHomeOf.j2 k x1 x6 x8 x194000 x194001 x211000 x211001) else (some false)))
def laws_FnExactHomeOf.j2 : Nat → Int → List ByteArray → List ByteArray → List ByteArray → List (S111) → List ByteArray → List (S65) → Option (Bool)
 | 0, _, _, _, _, _, _, _ => none
 | k + 1, x1, x6, x8, x194000, x194001, x211000, x211001 => (laws_markDisk.f k x211000 x211001 1).bind fun bt222 => (if bt222.1 < 0 then (laws_FnExactHomeOf.j3 k x1 x6 x8 true x194000 x194001) else ((laws_eqStringS.f k x8 x6).bind fun t225 => (laws_FnExactHomeOf.j3 k x1 x6 x8 (!t225) x194000 x194001)))
def laws_FnExactHomeOf.j3 : Nat → Int → List ByteArray → List ByteArray → Bool → List ByteArray → List (S111) → Option (Bool)
 | 0, _, _, _, _, _, _ => none
 | k + 1, x1, x6, x8, x46, x194000, x194001 => if x46 = true then (some false) else (laws_FnExactHomeOf.j4 k x1 x6 x8 x194000 x194001)
def laws_FnExactHomeOf.j4 : Nat → Int → List ByteArray → List ByteArray → List ByteArray → List (S111) → Option (Bool)
 | 0, _, _, _, _, _ => none
 | k + 1, x1, x6, x8, x194000, x194001 => (laws_markStringS.f k x8 1).bind fun bt226 => ((laws_heldStringS.f k bt226.2 1).bind fun t228 => (if t228 < 0 then (some false) else (laws_FnExactHomeOf.j5 k x1 x6 bt226.2 bt226.1 t228 x194000 x194001)))
def laws_FnExactHomeOf.j5 : Nat → Int → List ByteArray → List ByteArray → Int → Int → List ByteArray → List (S111) → Option (Bool)
 | 0, _, _, _, _, _, _, _ => none
 | k + 1, x1, x6, x8, x10, x11, x194000, x194001 => if x11 = x10 then (laws_FnExactHomeOf.j6 k x1 x6 x8 x10 x194000 x194001) else (some false)
def laws_FnExactHomeOf.j6 : Nat → Int → List ByteArray → List ByteArray → Int → List ByteArray → List (S111) → Option (Bool)
 | 0, _, _, _, _, _, _ => none
 | k + 1, x1, x6, x8, x10, x194000, x194001 => (laws_toDisk.f k x194000 x194001).bind fun bt229 => ((impl_HomeOf.f k bt229.1 bt229.2 x1).bind fun t235 => ((laws_eqStringS.f k t235 x6).bind fun t238 => (if t238 = true then (laws_FnExactHomeOf.j7 k x8 x10) else (some false))))
def laws_FnExactHomeOf.j7 : Nat → List ByteArray → Int → Option (Bool)
 | 0, _, _ => none
 | k + 1, x8, x10 => (laws_heldStringS.f k x8 1).bind fun t239 => (if t239 < 0 then (some false) else (if t239 = x10 then (some true) else (some false)))
end
def laws_FnExactHomeOf.f (k : Nat) (l0_0 : List ByteArray) (l0_1 : List (S111)) (a1 : Int) : Option (Bool) := (laws_szDisk.f k l0_0 l0_1 1048576).bind fun t194 => (if t194 < 0 then (some true) else (laws_FnExactHomeOf.j0 k a1 l0_0 l0_1))
theorem laws_FnExactHomeOf.mono_l : ∀ k, (∀ y0 y1 y2, LeO (laws_FnExactHomeOf.j0 k y0 y1 y2) (laws_FnExactHomeOf.j0 (k + 1) y0 y1 y2)) ∧ (∀ y0 y1 y2 y3 y4 y5 y6, LeO (laws_FnExactHomeOf.j1 k y0 y1 y2 y3 y4 y5 y6) (laws_FnExactHomeOf.j1 (k + 1) y0 y1 y2 y3 y4 y5 y6)) ∧ (∀ y0 y1 y2 y3 y4 y5 y6, LeO (laws_FnExactHomeOf.j2 k y0 y1 y2 y3 y4 y5 y6) (laws_FnExactHomeOf.j2 (k + 1) y0 y1 y2 y3 y4 y5 y6)) ∧ (∀ y0 y1 y2 y3 y4 y5, LeO (laws_FnExactHomeOf.j3 k y0 y1 y2 y3 y4 y5) (laws_FnExactHomeOf.j3 (k + 1) y0 y1 y2 y3 y4 y5)) ∧ (∀ y0 y1 y2 y3 y4, LeO (laws_FnExactHomeOf.j4 k y0 y1 y2 y3 y4) (laws_FnExactHomeOf.j4 (k + 1) y0 y1 y2 y3 y4)) ∧ (∀ y0 y1 y2 y3 y4 y5 y6, LeO (laws_FnExactHomeOf.j5 k y0 y1 y2 y3 y4 y5 y6) (laws_FnExactHomeOf.j5 (k + 1) y0 y1 y2 y3 y4 y5 y6)) ∧ (∀ y0 y1 y2 y3 y4 y5, LeO (laws_FnExactHomeOf.j6 k y0 y1 y2 y3 y4 y5) (laws_FnExactHomeOf.j6 (k + 1) y0 y1 y2 y3 y4 y5)) ∧ (∀ y0 y1, LeO (laws_FnExactHomeOf.j7 k y0 y1) (laws_FnExactHomeOf.j7 (k + 1) y0 y1))
 | 0 => ⟨fun _ _ _ r h => by simp [laws_FnExactHomeOf.j0] at h, fun _ _ _ _ _ _ _ r h => by simp [laws_FnExactHomeOf.j1] at h, fun _ _ _ _ _ _ _ r h => by simp [laws_FnExactHomeOf.j2] at h, fun _ _ _ _ _ _ r h => by simp [laws_FnExactHomeOf.j3] at h, fun _ _ _ _ _ r h => by simp [laws_FnExactHomeOf.j4] at h, fun _ _ _ _ _ _ _ r h => by simp [laws_FnExactHomeOf.j5] at h, fun _ _ _ _ _ _ r h => by simp [laws_FnExactHomeOf.j6] at h, fun _ _ r h => by simp [laws_FnExactHomeOf.j7] at h⟩
 | k + 1 => by
  obtain ⟨ih0, ih1, ih2, ih3, ih4, ih5, ih6, ih7⟩ := laws_FnExactHomeOf.mono_l k
  refine ⟨?_, ?_, ?_, ?_, ?_, ?_, ?_, ?_⟩
  ·intro y0 y1 y2
   unfold laws_FnExactHomeOf.j0
   have m0_ := @impl_HomeOf.mono
   have m1_ := @laws_eqDisk.mono
   have m2_ := @laws_eqStringS.mono
   have m3_ := @laws_heldStringS.mono
   have m4_ := @laws_markDisk.mono
   have m5_ := @laws_markStringS.mono
   have m6_ := @laws_szDisk.mono
   have m7_ := @laws_toDisk.mono
   have m8_ := @spec_HomeOf.mono
   exact mM
  ·intro y0 y1 y2 y3 y4 y5 y6
   unfold laws_FnExactHomeOf.j1
   have m0_ := @impl_HomeOf.mono
   have m1_ := @laws_eqDisk.mono
   have m2_ := @laws_eqStringS.mono
   have m3_ := @laws_heldStringS.mono
   have m4_ := @laws_markDisk.mono
   have m5_ := @laws_markStringS.mono
   have m6_ := @laws_szDisk.mono
   have m7_ := @laws_toDisk.mono
   have m8_ := @spec_HomeOf.mono
   exact mM
  ·intro y0 y1 y2 y3 y4 y5 y6
   unfold laws_FnExactHomeOf.j2
   have m0_ := @impl_HomeOf.mono
   have m1_ := @laws_eqDisk.mono
   have m2_ := @laws_eqStringS.mono
   have m3_ := @laws_heldStringS.mono
   have m4_ := @laws_markDisk.mono
   have m5_ := @laws_markStringS.mono
   have m6_ := @laws_szDisk.mono
   have m7_ := @laws_toDisk.mono
   have m8_ := @spec_HomeOf.mono
   exact mM
  ·intro y0 y1 y2 y3 y4 y5
   unfold laws_FnExactHomeOf.j3
   have m0_ := @impl_HomeOf.mono
   have m1_ := @laws_eqDisk.mono
   have m2_ := @laws_eqStringS.mono
   have m3_ := @laws_heldStringS.mono
   have m4_ := @laws_markDisk.mono
   have m5_ := @laws_markStringS.mono
   have m6_ := @laws_szDisk.mono
   have m7_ := @laws_toDisk.mono
   have m8_ := @spec_HomeOf.mono
   exact mM
  ·intro y0 y1 y2 y3 y4
   unfold laws_FnExactHomeOf.j4
   have m0_ := @impl_HomeOf.mono
   have m1_ := @laws_eqDisk.mono
   have m2_ := @laws_eqStringS.mono
   have m3_ := @laws_heldStringS.mono
   have m4_ := @laws_markDisk.mono
   have m5_ := @laws_markStringS.mono
   have m6_ := @laws_szDisk.mono
   have m7_ := @laws_toDisk.mono
   have m8_ := @spec_HomeOf.mono
   exact mM
  ·intro y0 y1 y2 y3 y4 y5 y6
   unfold laws_FnExactHomeOf.j5
   have m0_ := @impl_HomeOf.mono
   have m1_ := @laws_eqDisk.mono
   have m2_ := @laws_eqStringS.mono
   have m3_ := @laws_heldStringS.mono
   have m4_ := @laws_markDisk.mono
   have m5_ := @laws_markStringS.mono
   have m6_ := @laws_szDisk.mono
   have m7_ := @laws_toDisk.mono
   have m8_ := @spec_HomeOf.mono
   exact mM
  ·intro y0 y1 y2 y3 y4 y5
   unfold laws_FnExactHomeOf.j6
   have m0_ := @impl_HomeOf.mono
   have m1_ := @laws_eqDisk.mono
   have m2_ := @laws_eqStringS.mono
   have m3_ := @laws_heldStringS.mono
   have m4_ := @laws_markDisk.mono
   have m5_ := @laws_markStringS.mono
   have m6_ := @laws_szDisk.mono
   have m7_ := @laws_toDisk.mono
   have m8_ := @spec_HomeOf.mono
   exact mM
  ·intro y0 y1
   unfold laws_FnExactHomeOf.j7
   have m0_ := @impl_HomeOf.mono
   have m1_ := @laws_eqDisk.mono
   have m2_ := @laws_eqStringS.mono
   have m3_ := @laws_heldStringS.mono
   have m4_ := @laws_markDisk.mono
   have m5_ := @laws_markStringS.mono
   have m6_ := @laws_szDisk.mono
   have m7_ := @laws_toDisk.mono
   have m8_ := @spec_HomeOf.mono
   exact mM
theorem laws_FnExactHomeOf.mono : ∀ a0 a1 a2 k, LeO (laws_FnExactHomeOf.f k a0 a1 a2) (laws_FnExactHomeOf.f (k + 1) a0 a1 a2) := by
 intro a0 a1 a2 k
 obtain ⟨ih0, ih1, ih2, ih3, ih4, ih5, ih6, ih7⟩ := laws_FnExactHomeOf.mono_l k
 unfold laws_FnExactHomeOf.f
 have m0_ := @impl_HomeOf.mono
 have m1_ := @laws_eqDisk.mono
 have m2_ := @laws_eqStringS.mono
 have m3_ := @laws_heldStringS.mono
 have m4_ := @laws_markDisk.mono
 have m5_ := @laws_markStringS.mono
 have m6_ := @laws_szDisk.mono
 have m7_ := @laws_toDisk.mono
 have m8_ := @spec_HomeOf.mono
 exact mM
set_option maxHeartbeats 8000000 in
set_option maxRecDepth 100000 in
theorem laws_FnExactHomeOf.calls (k : Nat) (A0_0 : Option Addr) (c0_0 : Nat) (l0_0 : List ByteArray) (A0_1 : Option Addr) (c0_1 : Nat) (l0_1 : List (S111)) (a1 : Int) (r : Bool) (w : World) (hr0_0 : Kd.C Kd.string w A0_0 l0_0.length l0_0) (hc0_0 : l0_0.length ≤ c0_0) (hr0_1 : Kd.C k111 w A0_1 l0_1.length l0_1) (hc0_1 : l0_1.length ≤ c0_1) (h : laws_FnExactHomeOf.f k l0_0 l0_1 a1 = some r) :
  Calls Try.prog 5 #[.agg #[.slice A0_0 l0_0.length c0_0, .slice A0_1 l0_1.length c0_1], .int .i64 a1] w fun e w' => e = .returned (.bool r) ∧ Below w.heap.size w w' := by
 have hu25 := Try.underlying25
 have hu30 := Try.underlying30
 have HR0_0 := aM hr0_0
 have HC0_0 := aM hc0_0
 clear hr0_0 hc0_0
 have HR0_1 := aM hr0_1
 have HC0_1 := aM hc0_1
 clear hr0_1 hc0_1
 have HB := aM (Below.refl w.heap.size w)
 unfold laws_FnExactHomeOf.f at h
 have H := h
 clear h
 replace H := Option.bind_eq_some_iff.mp H
 obtain ⟨t194, A30, H⟩ := H
 try dsimp only at H
 have A3 := aM A30
 clear A30
 have HC4 := aM H
 clear H
 go_enter Try.func5, Try.ntmps5
 go_upto_if 17 with (first | ((with_reducible refine gate_dst (N := 2) rfl ?_); refine bE 2 #[.slice A0_0 l0_0.length c0_0, .slice A0_1 l0_1.length c0_1] 25 ?_; intro gb193 hg w5 hbox hb; have n_ := aI (sB HB hb) (aI (aM hbox) (aI (gE HB hg) (gE HB hg))); clear HB; obtain ⟨HB, BK193, GW193, GE193⟩ := n_; (try clear hb hbox hg); have hcz6_0 := cZ0 BK193; have hcz6_1 := cZ1 BK193; have hfz6_0 := fZ BK193 0; have hfz6_1 := fZ BK193 1) | ((with_reducible refine gate_callee (f := 15) rfl ?_); refine gL (some 15) Try.func15 #[.agg #[.slice A0_0 l0_0.length c0_0, .slice A0_1 l0_1.length c0_1], .int .i64 1048576] ?_; (with_reducible refine (laws_szDisk.calls k _ _ l0_0 _ _ l0_1 1048576 t194 _ ?side1 ?side2 ?side3 ?side4 A3.out).mono ?_); (case side1 => exact cS HR0_0 HB); (case side2 => exact HC0_0.out); (case side3 => exact cS HR0_1 HB); (case side4 => exact HC0_1.out); rintro e w7 ⟨rfl, hb⟩; refine ⟨_, rfl, ?_⟩; have n_ := aI (kB BK193 hb) (sB HB hb); clear BK193 HB; obtain ⟨BK193, HB⟩ := n_; (try clear hb)))
 (try simp only [Act.put, List.setIfInBounds_toArray, List.set_cons_zero, List.set_cons_succ])
 go_cut [] (fun wc => ∃ (kq : Nat), Aside0 (laws_FnExactHomeOf.j0 kq a1 l0_0 l0_1 = some r) ∧ Aside0 (kq ≤ k) ∧ Aside0 (wc.heap[gb193]? = some (.cells #[(.slice A0_0 l0_0.length c0_0), (.slice A0_1 l0_1.length c0_1)] 25 (0, 0))) ∧ Aside0 (Below w.heap.size w wc))
 case first =>
  have H := HC4.out
  clear HC4
  by_cases c8 : t194 < 0
  ·rw [if_pos c8] at H
   have c8b0 : decide (t194 < 0) = true := decide_eq_true c8
   clear c8
   (first | rw [c8b0] | (simp only [i64_w, i32_w]; rw [c8b0]) | rw [c8b1] | rw [c8b2] | skip)
   obtain rfl := Option.some.inj H
   go_wp2
   go_ret
   exact ⟨eW, bB⟩
  rw [if_neg c8] at H
  have c8b0 : decide (t194 < 0) = false := decide_eq_false c8
  clear c8
  (first | rw [c8b0] | (simp only [i64_w, i32_w]; rw [c8b0]) | rw [c8b1] | rw [c8b2] | skip)
  have H' := aM H
  clear H
  go_wp2
  go_meet
  case rel => exact ⟨_, H', ⟨by first | omega | exact Nat.le_refl _⟩, ⟨kP BK193⟩, ⟨bB⟩⟩
 case rest =>
  clear HC4
  try clear c1
  try clear p2
  try clear c5
  try clear c8
  try clear c8b0
  try clear c8b1
  try clear c8b2
  try clear hcz6_0
  try clear hcz6_1
  try clear hfz6_0
  try clear hfz6_1
  obtain ⟨kq, HA, HJ3, BK193, HB⟩ := hcut
  cases kq with
  | zero => exact absurd HA.out (by simp [laws_FnExactHomeOf.j0])
  | succ kj3 =>
   have H := HA.out
   clear HA
   simp only [laws_FnExactHomeOf.j0] at H
   replace H := Option.bind_eq_some_iff.mp H
   obtain ⟨⟨t195, t198⟩, A90, H⟩ := H
   try dsimp only at H
   have A9 := aM A90
   clear A90
   replace H := Option.bind_eq_some_iff.mp H
   obtain ⟨t201, A100, H⟩ := H
   try dsimp only at H
   have A10 := aM A100
   clear A100
   replace H := Option.bind_eq_some_iff.mp H
   obtain ⟨⟨t204, t207⟩, A110, H⟩ := H
   try dsimp only at H
   have A11 := aM A110
   clear A110
   replace H := Option.bind_eq_some_iff.mp H
   obtain ⟨t211, A120, H⟩ := H
   try dsimp only at H
   have A12 := aM A120
   clear A120
   replace H := Option.bind_eq_some_iff.mp H
   obtain ⟨t214, A130, H⟩ := H
   try dsimp only at H
   have A13 := aM A130
   clear A130
   have HC14 := aM H
   clear H
   have hcz15_0 := cZ0 BK193
   have hcz15_1 := cZ1 BK193
   have hfz15_0 := fZ BK193 0
   have hfz15_1 := fZ BK193 1
   go_upto_if 30 with (first | ((with_reducible refine gate_callee (f := 17) rfl ?_); refine gL (some 19) Try.func17 #[.agg #[.slice A0_0 l0_0.length c0_0, .slice A0_1 l0_1.length c0_1]] ?_; (with_reducible refine (laws_toDisk.calls kj3 _ _ l0_0 _ _ l0_1 t195 t198 _ ?side1 ?side2 ?side3 ?side4 A9.out).mono ?_); (case side1 => exact cS HR0_0 HB); (case side2 => exact HC0_0.out); (case side3 => exact cS HR0_1 HB); (case side4 => exact HC0_1.out); rintro e w16 ⟨v196, v199, rfl, ho0, ho1, hb⟩; refine ⟨_, rfl, ?_⟩; have n_ := aI (lR HB ho0) (aI (lR HB ho1) (aI (kB BK193 hb) (sB HB hb))); clear BK193 HB; obtain ⟨HO197, HO200, BK193, HB⟩ := n_; (try clear hb ho0 ho1); obtain ⟨Ao17, co17, eo17⟩ := Kd.R_slice HO197.out; subst eo17; obtain ⟨Ao18, co18, eo18⟩ := Kd.R_slice HO200.out; subst eo18) | ((with_reducible refine gate_callee (f := 22) rfl ?_); refine gL (some 21) Try.func22 #[.agg #[.slice Ao17 t195.length co17, .slice Ao18 t198.length co18], .int .i64 a1] ?_; (with_reducible refine (spec_HomeOf.calls kj3 _ _ t195 _ _ t198 a1 t201 _ ?side1 ?side2 ?side3 ?side4 A10.out).mono ?_); (case side1 => exact cR HO197); (case side2 => exact (Kd.R_reads' HO197.out).2.1); (case side3 => exact cR HO200); (case side4 => exact (Kd.R_reads' HO200.out).2.1); rintro e w19 ⟨v202, rfl, ho0, hb⟩; refine ⟨_, rfl, ?_⟩; have n_ := aI (eR HO197 ho0 hb) (aI (rB HO200 hb) (aI (aM (Kd.R_lower (Kd.R_new' ho0 (rL HO197)) (zB HB))) (aI (kB BK193 hb) (sB HB hb)))); clear HO197 HO200 BK193 HB; obtain ⟨HO197, HO200, HO203, BK193, HB⟩ := n_; (try clear hb ho0); have hcz20_0 := cZ0 BK193; have hcz20_1 := cZ1 BK193; have hfz20_0 := fZ BK193 0; have hfz20_1 := fZ BK193 1) | ((with_reducible refine gate_callee (f := 17) rfl ?_); refine gL (some 23) Try.func17 #[.agg #[.slice A0_0 l0_0.length c0_0, .slice A0_1 l0_1.length c0_1]] ?_; (with_reducible refine (laws_toDisk.calls kj3 _ _ l0_0 _ _ l0_1 t204 t207 _ ?side1 ?side2 ?side3 ?side4 A11.out).mono ?_); (case side1 => exact cS HR0_0 HB); (case side2 => exact HC0_0.out); (case side3 => exact cS HR0_1 HB); (case side4 => exact HC0_1.out); rintro e w21 ⟨v205, v208, rfl, ho0, ho1, hb⟩; refine ⟨_, rfl, ?_⟩; have n_ := aI (eR HO197 ho0 hb) (aI (eR HO200 ho1 hb) (aI (eR HO203 ho0 hb) (aI (aM (Kd.R_lower (Kd.R_new' (Kd.R_new' ho0 (rL HO197)) (rL HO203)) (zB HB))) (aI (aM (Kd.R_lower (Kd.R_new' ho1 (rL HO200)) (zB HB))) (aI (kB BK193 hb) (sB HB hb)))))); clear HO197 HO200 HO203 BK193 HB; obtain ⟨HO197, HO200, HO203, HO206, HO209, BK193, HB⟩ := n_; (try clear hb ho0 ho1)) | ((with_reducible refine gate_dst (N := 7) rfl ?_); refine bE 7 #[.slice none 0 0, .slice none 0 0] 30 ?_; intro gb210 hg w22 hbox hb; have n_ := aI (rB HO197 hb) (aI (rB HO200 hb) (aI (rB HO203 hb) (aI (rB HO206 hb) (aI (rB HO209 hb) (aI (kB BK193 hb) (aI (sB HB hb) (aI (aM hbox) (aI (gE HB hg) (aI (gE HB hg) (aI (nL BK193 hg) (nG BK193 hg))))))))))); clear HO197 HO200 HO203 HO206 HO209 BK193 HB; obtain ⟨HO197, HO200, HO203, HO206, HO209, BK193, HB, BK210, GW210, GE210, NB193_210, NB210_193⟩ := n_; (try clear hb hbox hg); obtain ⟨Ao23, co23, eo23⟩ := Kd.R_slice HO206.out; subst eo23; have hnb24 := NB210_193.out; have hnc24 := NB193_210.out; have hcz25_0 := cZ0 BK210; have hcz25_1 := cZ1 BK210; have hfz25_0 := fZ BK210 0; have hfz25_1 := fZ BK210 1; obtain ⟨Ao26, co26, eo26⟩ := Kd.R_slice HO209.out; subst eo26) | ((with_reducible refine gate_callee (f := 23) rfl ?_); refine gL (some 26) Try.func23 #[.agg #[.slice Ao23 t204.length co23, .slice Ao26 t207.length co26], .int .i64 a1] ?_; (with_reducible refine (impl_HomeOf.calls kj3 _ _ t204 _ _ t207 a1 t211 _ ?side1 ?side2 ?side3 ?side4 A12.out).mono ?_); (case side1 => refine (Kd.R_reads' (e := 9) (base := w.heap.size) (ok := fun k_ => ((True ∧ some k_ ≠ (.slice Ao17 t195.length co17 : Value).ownBlock) ∧ some k_ ≠ (v202 : Value).ownBlock)) (n := t204.length) (c := co23) ?_).2.2; exact (rP (Kd.R_mono (Kd.R_far (p := ⟨gb210, 1, none⟩) (Kd.R_far (p := ⟨gb210, 0, none⟩) (Kd.R_types HO206.out BK210.out (by decide)) (fun _ hk => hk.2) (.slice Ao23 t204.length co23)) (fun _ hk => hk.2) (.slice Ao26 t207.length co26)) (fun _ h_ => h_.1)))); (case side2 => exact (Kd.R_reads' HO206.out).2.1); (case side3 => refine (Kd.R_reads' (e := 65) (base := w.heap.size) (ok := fun k_ => (True ∧ some k_ ≠ (.slice Ao18 t198.length co18 : Value).ownBlock)) (n := t207.length) (c := co26) ?_).2.2; exact (rP (Kd.R_mono (Kd.R_far (p := ⟨gb210, 1, none⟩) (Kd.R_far (p := ⟨gb210, 0, none⟩) (Kd.R_types HO209.out BK210.out (by decide)) (fun _ hk => hk.2) (.slice Ao23 t204.length co23)) (fun _ hk => hk.2) (.slice Ao26 t207.length co26)) (fun _ h_ => h_.1)))); (case side4 => exact (Kd.R_reads' HO209.out).2.1); rintro e w27 ⟨v212, rfl, ho0, hb⟩; refine ⟨_, rfl, ?_⟩; have n_ := aI (aM (Kd.R_elder' (rP (Kd.R_mono (Kd.R_far (p := ⟨gb210, 1, none⟩) (Kd.R_far (p := ⟨gb210, 0, none⟩) (Kd.R_types HO197.out BK210.out (by decide)) (fun _ hk => hk.2) (.slice Ao23 t204.length co23)) (fun _ hk => hk.2) (.slice Ao26 t207.length co26)) (fun _ h_ => h_.1))) (Kd.Q_base ho0) hb)) (aI (aM (Kd.R_below (rP (Kd.R_mono (Kd.R_far (p := ⟨gb210, 1, none⟩) (Kd.R_far (p := ⟨gb210, 0, none⟩) (Kd.R_types HO200.out BK210.out (by decide)) (fun _ hk => hk.2) (.slice Ao23 t204.length co23)) (fun _ hk => hk.2) (.slice Ao26 t207.length co26)) (fun _ h_ => h_.1))) hb)) (aI (aM (Kd.R_elder' (rP (Kd.R_mono (Kd.R_far (p := ⟨gb210, 1, none⟩) (Kd.R_far (p := ⟨gb210, 0, none⟩) (Kd.R_types HO203.out BK210.out (by decide)) (fun _ hk => hk.2) (.slice Ao23 t204.length co23)) (fun _ hk => hk.2) (.slice Ao26 t207.length co26)) (fun _ h_ => h_.1))) (Kd.Q_base ho0) hb)) (aI (aM (Kd.R_elder' (rP (Kd.R_mono (Kd.R_far (p := ⟨gb210, 1, none⟩) (Kd.R_far (p := ⟨gb210, 0, none⟩) (Kd.R_types HO206.out BK210.out (by decide)) (fun _ hk => hk.2) (.slice Ao23 t204.length co23)) (fun _ hk => hk.2) (.slice Ao26 t207.length co26)) (fun _ h_ => h_.1))) (Kd.Q_base ho0) hb)) (aI (aM (Kd.R_below (rP (Kd.R_mono (Kd.R_far (p := ⟨gb210, 1, none⟩) (Kd.R_far (p := ⟨gb210, 0, none⟩) (Kd.R_types HO209.out BK210.out (by decide)) (fun _ hk => hk.2) (.slice Ao23 t204.length co23)) (fun _ hk => hk.2) (.slice Ao26 t207.length co26)) (fun _ h_ => h_.1))) hb)) (aI (aM (Kd.Q_lower (Kd.Q_new' (Kd.Q_new' (Kd.Q_new' ho0 (Kd.R_lt (rP (Kd.R_mono (Kd.R_far (p := ⟨gb210, 1, none⟩) (Kd.R_far (p := ⟨gb210, 0, none⟩) (Kd.R_types HO197.out BK210.out (by decide)) (fun _ hk => hk.2) (.slice Ao23 t204.length co23)) (fun _ hk => hk.2) (.slice Ao26 t207.length co26)) (fun _ h_ => h_.1))))) (Kd.R_lt (rP (Kd.R_mono (Kd.R_far (p := ⟨gb210, 1, none⟩) (Kd.R_far (p := ⟨gb210, 0, none⟩) (Kd.R_types HO203.out BK210.out (by decide)) (fun _ hk => hk.2) (.slice Ao23 t204.length co23)) (fun _ hk => hk.2) (.slice Ao26 t207.length co26)) (fun _ h_ => h_.1))))) (Kd.R_lt (rP (Kd.R_mono (Kd.R_far (p := ⟨gb210, 1, none⟩) (Kd.R_far (p := ⟨gb210, 0, none⟩) (Kd.R_types HO206.out BK210.out (by decide)) (fun _ hk => hk.2) (.slice Ao23 t204.length co23)) (fun _ hk => hk.2) (.slice Ao26 t207.length co26)) (fun _ h_ => h_.1))))) (zB HB))) (aI (kB BK193 hb) (aI (aM (blk_below (g := gb210) (o := .cells #[.slice Ao23 t204.length co23, .slice Ao26 t207.length co26] 30 (0, 0)) (by (with_reducible repeat (first | apply bN | apply bD | apply bA)); refine blk_put (cs := #[.slice Ao23 t204.length co23, .slice none 0 0]) ?_ 1 _ rfl; (with_reducible repeat (first | apply bN | apply bD | apply bA)); refine blk_put (cs := #[.slice none 0 0, .slice none 0 0]) ?_ 0 _ rfl; (with_reducible repeat (first | apply bN | apply bD | apply bA)); exact BK210.out) hb)) (sB HB hb)))))))); clear HO197 HO200 HO203 HO206 HO209 BK193 BK210 HB; obtain ⟨HO197, HO200, HO203, HO206, HO209, HO213, BK193, BK210, HB⟩ := n_; (try clear hb ho0); obtain ⟨Ao28, co28, eo28, _⟩ := Kd.Q_slice HO213.out; subst eo28; obtain ⟨Ao29, co29, eo29⟩ := Kd.R_slice HO203.out; subst eo29) | ((with_reducible refine gate_callee (f := 24) rfl ?_); refine gL (some 29) Try.func24 #[.slice Ao28 t211.length co28, .slice Ao29 t201.length co29] ?_; (with_reducible refine (laws_eqStringS.calls kj3 _ _ t211 _ _ t201 t214 _ ?side1 ?side2 ?side3 ?side4 A13.out).mono ?_); (case side1 => repeat (first | exact (Kd.Q_reads' HO213.out).2.2 | (with_reducible refine Kd.C_alloc ?_ _) | (with_reducible refine Kd.C_drewN ?_ _) | (with_reducible refine Kd.C_drew ?_))); (case side2 => exact (Kd.Q_reads' HO213.out).2.1); (case side3 => exact cR HO203); (case side4 => exact (Kd.R_reads' HO203.out).2.1); rintro e w' ⟨rfl, ⟨nd, rfl⟩⟩; refine ⟨_, rfl, ?_⟩))
   (try simp only [Act.put, List.setIfInBounds_toArray, List.set_cons_zero, List.set_cons_succ])
   go_cut [] (fun wc => ∃ (kq : Nat), Aside0 (laws_FnExactHomeOf.j1 kq a1 t201 t211 l0_0 l0_1 t204 t207 = some r) ∧ Aside0 (kq ≤ kj3) ∧ Aside0 (Kd.R Kd.string 9 wc w.heap.size (fun k_ => some k_ ≠ ((.slice Ao28 t211.length co28) : Value).ownBlock ∧ some k_ ≠ ((.slice Ao23 t204.length co23) : Value).ownBlock) (.slice Ao29 t201.length co29) t201) ∧ Aside0 (Kd.Q Kd.string 9 wc w.heap.size (fun k_ => some k_ ≠ ((.slice Ao29 t201.length co29) : Value).ownBlock ∧ some k_ ≠ ((.slice Ao23 t204.length co23) : Value).ownBlock) (.slice Ao28 t211.length co28) t211) ∧ Aside0 (Kd.Q Kd.string 9 wc w.heap.size (fun k_ => some k_ ≠ ((.slice Ao29 t201.length co29) : Value).ownBlock ∧ some k_ ≠ ((.slice Ao28 t211.length co28) : Value).ownBlock) (.slice Ao23 t204.length co23) t204) ∧ Aside0 (Kd.Q k65 65 wc w.heap.size (fun _ => True) (.slice Ao26 t207.length co26) t207) ∧ Aside0 (wc.heap[gb193]? = some (.cells #[(.slice A0_0 l0_0.length c0_0), (.slice A0_1 l0_1.length c0_1)] 25 (0, 0))) ∧ Aside0 (wc.heap[gb210]? = some (.cells #[(.slice Ao23 t204.length co23), (.slice Ao26 t207.length co26)] 30 (0, 0))) ∧ Aside0 (Below w.heap.size w wc))
   case first =>
    have H := HC14.out
    clear HC14
    by_cases c30 : t214 = true
    ·subst c30
     rw [if_pos rfl] at H
     have H' := aM H
     clear H
     go_wp2
     go_meet
     case rel => exact ⟨_, H', ⟨by have := HJ3.out; first | omega | exact Nat.le_refl _⟩, ⟨rP (Kd.R_mono HO203.out (fun _ hk => ⟨hk.2, hk.1.2⟩))⟩, ⟨by (with_reducible repeat (first | apply Kd.Q_alloc | apply Kd.Q_drewN | apply Kd.Q_drew)); exact Kd.Q_mono HO213.out (fun _ hk => ⟨hk.1.2, hk.2⟩)⟩, ⟨Kd.Q_of_R (rP (Kd.R_mono HO206.out (fun _ hk => ⟨hk.1.2, hk.2⟩)))⟩, ⟨Kd.Q_of_R (rP (Kd.R_mono HO209.out (fun _ hk => trivial)))⟩, ⟨kP BK193⟩, ⟨kP BK210⟩, ⟨bB⟩⟩
    ·replace c30 := Bool.eq_false_iff.mpr c30
     subst c30
     rw [if_neg (show ¬ (false = true) by decide)] at H
     obtain rfl := Option.some.inj H
     go_wp2
     go_ret
     exact ⟨eW, bB⟩
   case rest =>
    clear HC14
    try clear c1
    try clear c2
    try clear p2
    try clear c3
    try clear c5
    try clear c8
    try clear c8b0
    try clear c8b1
    try clear c8b2
    try clear c15
    try clear c17
    try clear c22
    try clear c23
    try clear c24
    try clear c30
    try clear hcz15_0
    try clear hcz15_1
    try clear hcz20_0
    try clear hcz20_1
    try clear hcz25_0
    try clear hcz25_1
    try clear hcz6_0
    try clear hcz6_1
    try clear hfz15_0
    try clear hfz15_1
    try clear hfz20_0
    try clear hfz20_1
    try clear hfz25_0
    try clear hfz25_1
    try clear hfz6_0
    try clear hfz6_1
    try clear p2
    obtain ⟨kq, HA, HJ13, HO_6, HO_8, HO_211000, HO_211001, BK193, BK210, HB⟩ := hcut
    cases kq with
    | zero => exact absurd HA.out (by simp [laws_FnExactHomeOf.j1])
    | succ kj13 =>
     have H := HA.out
     clear HA
     simp only [laws_FnExactHomeOf.j1] at H
     replace H := Option.bind_eq_some_iff.mp H
     obtain ⟨⟨t215, t218⟩, A310, H⟩ := H
     try dsimp only at H
     have A31 := aM A310
     clear A310
     replace H := Option.bind_eq_some_iff.mp H
     obtain ⟨t221, A320, H⟩ := H
     try dsimp only at H
     have A32 := aM A320
     clear A320
     have HC33 := aM H
     clear H
     try go_wp2
     have n_ := aI (aM (Kd.R_drew HO_6.out)) (aI (aM (Kd.Q_drew HO_8.out)) (aI (aM (Kd.Q_drew HO_211000.out)) (aI (aM (Kd.Q_drew HO_211001.out)) (aI (aM (blk_drew BK193.out)) (aI (aM (blk_drew BK210.out)) (aM (below_drew1 HB.out)))))))
     clear HO_6 HO_8 HO_211000 HO_211001 BK193 BK210 HB
     obtain ⟨HO_6, HO_8, HO_211000, HO_211001, BK193, BK210, HB⟩ := n_
     refine start_ (n := 5) (S := fun w' => w'.cell? ⟨gb210, 0, none⟩ = some (.slice Ao23 t204.length co23) ∧ w'.cell? ⟨gb210, 1, none⟩ = some (.slice Ao26 t207.length co26) ∧ w'.cell? ⟨gb193, 0, none⟩ = some (.slice A0_0 l0_0.length c0_0) ∧ w'.cell? ⟨gb193, 1, none⟩ = some (.slice A0_1 l0_1.length c0_1)) (ds := []) #[tF, tF, tF, tF, tF] (by kernel_rfl) rfl rfl ⟨(blk_cell BK210.out 0).trans rfl, (blk_cell BK210.out 1).trans rfl, (blk_cell BK193.out 0).trans rfl, (blk_cell BK193.out 1).trans rfl⟩ (fun hHeld => ?_)
     generalize wc.drew = w34 at HO_6 HO_8 HO_211000 HO_211001 BK193 BK210 HB hHeld ⊢
     refine take_ (i := 0) (N := some 31) (v := ?_) (a' := ?_) #[tT, tF, tF, tF, tF] rfl rfl (by kernel_rfl) (fun _ _ _ h => h) (Or.inl ⟨by rfl, ?_⟩) hHeld ?_ ?_
     rotate_left
     ·rintro w' ⟨s0, s1, s2, s3⟩
      go_simp
      with_reducible rfl
     rotate_left
     ·simp only [Act.put, List.setIfInBounds_toArray, List.set_cons_zero, List.set_cons_succ, i64_w, i32_w]
      rfl
     refine take_ (i := 1) (N := some 32) (v := ?_) (a' := ?_) #[tT, tT, tF, tF, tF] rfl rfl (by kernel_rfl) (fun _ _ _ h => h) (Or.inl ⟨by rfl, ?_⟩) hHeld ?_ ?_
     rotate_left
     ·rintro w' ⟨s0, s1, s2, s3⟩
      go_simp
      with_reducible rfl
     rotate_left
     ·simp only [Act.put, List.setIfInBounds_toArray, List.set_cons_zero, List.set_cons_succ, i64_w, i32_w]
      rfl
     refine one_ (i := 2) (N := some 33) #[tT, tT, tT, tF, tF] rfl rfl (by kernel_rfl) (by decide) (fun K hK => ?_)
     refine goes_ Try.func17 (by kernel_rfl) rfl #[.agg #[.slice A0_0 l0_0.length c0_0, .slice A0_1 l0_1.length c0_1]] (by rfl) rfl rfl (by (try simp only [List.map_toArray, List.map_cons, List.map_nil]); first | done | rfl | (simp only [List.length_drop, List.length_take]; rfl)) ?_
     with_reducible refine (laws_toDisk.calls kj13 _ _ l0_0 _ _ l0_1 t215 t218 _ ?side1 ?side2 ?side3 ?side4 A31.out).mono ?_
     (case side1 => exact cS HR0_0 HB)
     (case side2 => exact HC0_0.out)
     (case side3 => exact cS HR0_1 HB)
     (case side4 => exact HC0_1.out)
     rintro e w35 ⟨v216, v219, rfl, ho0, ho1, hb⟩
     refine ⟨_, rfl, ?_⟩
     have n_ := aI (eR HO_6 ho0 hb) (aI (aM (Kd.Q_elder' (by (with_reducible repeat (first | apply Kd.Q_alloc | apply Kd.Q_drewN | apply Kd.Q_drew)); exact HO_8.out) (Kd.R_base ho0) hb)) (aI (aM (Kd.Q_elder' (by (with_reducible repeat (first | apply Kd.Q_alloc | apply Kd.Q_drewN | apply Kd.Q_drew)); exact HO_211000.out) (Kd.R_base ho0) hb)) (aI (aM (Kd.Q_elder' (by (with_reducible repeat (first | apply Kd.Q_alloc | apply Kd.Q_drewN | apply Kd.Q_drew)); exact HO_211001.out) (Kd.R_base ho1) hb)) (aI (aM (Kd.R_lower (Kd.R_new' (Kd.R_new' (Kd.R_new' ho0 (rL HO_6)) (Kd.Q_lt (by (with_reducible repeat (first | apply Kd.Q_alloc | apply Kd.Q_drewN | apply Kd.Q_drew)); exact HO_8.out))) (Kd.Q_lt (by (with_reducible repeat (first | apply Kd.Q_alloc | apply Kd.Q_drewN | apply Kd.Q_drew)); exact HO_211000.out))) (zB HB))) (aI (aM (Kd.R_lower (Kd.R_new' ho1 (Kd.Q_lt (by (with_reducible repeat (first | apply Kd.Q_alloc | apply Kd.Q_drewN | apply Kd.Q_drew)); exact HO_211001.out))) (zB HB))) (aI (kB BK193 hb) (aI (kB BK210 hb) (sB HB hb))))))))
     clear HO_6 HO_8 HO_211000 HO_211001 BK193 BK210 HB
     obtain ⟨HO_6, HO_8, HO_211000, HO_211001, HO217, HO220, BK193, BK210, HB⟩ := n_
     (try clear hb)
     (try clear hb2)
     (try clear hk)
     (try clear hi)
     (try clear ho0)
     (try clear ho1)
     obtain ⟨Ao36, co36, eo36⟩ := Kd.R_slice HO217.out
     (first | subst eo36 | (injection eo36 with f1_ f2_ f3_; have f4_ := f1_.symm; have f5_ := f3_.symm; clear f1_ f2_ f3_; subst f4_; subst f5_))
     obtain ⟨Ao37, co37, eo37⟩ := Kd.R_slice HO220.out
     (first | subst eo37 | (injection eo37 with f1_ f2_ f3_; have f4_ := f1_.symm; have f5_ := f3_.symm; clear f1_ f2_ f3_; subst f4_; subst f5_))
     refine hK.out _ _ ⟨(blk_cell BK210.out 0).trans rfl, (blk_cell BK210.out 1).trans rfl, (blk_cell BK193.out 0).trans rfl, (blk_cell BK193.out 1).trans rfl⟩ (fun hHeld => ?_)
     clear hK K
     refine norm_ (a' := ?_) ?_ ?_
     rotate_left
     ·show Act.put _ (some 33) _ = _
      simp only [Act.put, List.setIfInBounds_toArray, List.set_cons_zero, List.set_cons_succ, i64_w, i32_w]
      rfl
     refine one_ (i := 3) (N := some 34) #[tT, tT, tT, tT, tF] rfl rfl (by kernel_rfl) (by decide) (fun K hK => ?_)
     refine goes_ Try.func19 (by kernel_rfl) rfl #[.agg #[.slice Ao23 t204.length co23, .slice Ao26 t207.length co26], .agg #[.slice Ao36 t215.length co36, .slice Ao37 t218.length co37]] (by rfl) rfl rfl (by (try simp only [List.map_toArray, List.map_cons, List.map_nil]); first | done | rfl | (simp only [List.length_drop, List.length_take]; rfl)) ?_
     with_reducible refine (laws_eqDisk.calls kj13 _ _ t204 _ _ t207 _ _ t215 _ _ t218 t221 _ ?side1 ?side2 ?side3 ?side4 ?side5 ?side6 ?side7 ?side8 A32.out).mono ?_
     (case side1 => repeat (first | exact (Kd.Q_reads' HO_211000.out).2.2 | (with_reducible refine Kd.C_alloc ?_ _) | (with_reducible refine Kd.C_drewN ?_ _) | (with_reducible refine Kd.C_drew ?_)))
     (case side2 => exact (Kd.Q_reads' HO_211000.out).2.1)
     (case side3 => repeat (first | exact (Kd.Q_reads' HO_211001.out).2.2 | (with_reducible refine Kd.C_alloc ?_ _) | (with_reducible refine Kd.C_drewN ?_ _) | (with_reducible refine Kd.C_drew ?_)))
     (case side4 => exact (Kd.Q_reads' HO_211001.out).2.1)
     (case side5 => exact cR HO217)
     (case side6 => exact (Kd.R_reads' HO217.out).2.1)
     (case side7 => exact cR HO220)
     (case side8 => exact (Kd.R_reads' HO220.out).2.1)
     rintro e w38 ⟨rfl, hb⟩
     refine ⟨_, rfl, ?_⟩
     have n_ := aI (rB HO_6 hb) (aI (aM (Kd.Q_below (by (with_reducible repeat (first | apply Kd.Q_alloc | apply Kd.Q_drewN | apply Kd.Q_drew)); exact HO_8.out) hb)) (aI (aM (Kd.Q_below (by (with_reducible repeat (first | apply Kd.Q_alloc | apply Kd.Q_drewN | apply Kd.Q_drew)); exact HO_211000.out) hb)) (aI (aM (Kd.Q_below (by (with_reducible repeat (first | apply Kd.Q_alloc | apply Kd.Q_drewN | apply Kd.Q_drew)); exact HO_211001.out) hb)) (aI (rB HO217 hb) (aI (rB HO220 hb) (aI (kB BK193 hb) (aI (kB BK210 hb) (sB HB hb))))))))
     clear HO_6 HO_8 HO_211000 HO_211001 HO217 HO220 BK193 BK210 HB
     obtain ⟨HO_6, HO_8, HO_211000, HO_211001, HO217, HO220, BK193, BK210, HB⟩ := n_
     (try clear hb)
     (try clear hb2)
     (try clear hk)
     (try clear hi)
     refine hK.out _ _ ⟨(blk_cell BK210.out 0).trans rfl, (blk_cell BK210.out 1).trans rfl, (blk_cell BK193.out 0).trans rfl, (blk_cell BK193.out 1).trans rfl⟩ (fun hHeld => ?_)
     clear hK K
     refine norm_ (a' := ?_) ?_ ?_
     rotate_left
     ·show Act.put _ (some 34) _ = _
      simp only [Act.put, List.setIfInBounds_toArray, List.set_cons_zero, List.set_cons_succ, i64_w, i32_w]
      rfl
     refine pure_ (i := 4) (N := some 35) (v := ?_) (a' := ?_) #[tT, tT, tT, tT, tT] rfl rfl (by kernel_rfl) (fun _ _ _ h => h) (Or.inl ⟨by rfl, ?_⟩) ?_ ?_
     rotate_left
     ·intro w'
      go_simp
      with_reducible rfl
     rotate_left
     ·simp only [Act.put, List.setIfInBounds_toArray, List.set_cons_zero, List.set_cons_succ, i64_w, i32_w]
      rfl
     refine done_ (by kernel_rfl) ?_
     go_upto_if 35 with (fail)
     go_cut [] (fun wc => ∃ (kq : Nat), Aside0 (laws_FnExactHomeOf.j2 kq a1 t201 t211 l0_0 l0_1 t204 t207 = some r) ∧ Aside0 (kq ≤ kj13) ∧ Aside0 (Kd.R Kd.string 9 wc w.heap.size (fun k_ => some k_ ≠ ((.slice Ao28 t211.length co28) : Value).ownBlock ∧ some k_ ≠ ((.slice Ao23 t204.length co23) : Value).ownBlock) (.slice Ao29 t201.length co29) t201) ∧ Aside0 (Kd.Q Kd.string 9 wc w.heap.size (fun k_ => some k_ ≠ ((.slice Ao29 t201.length co29) : Value).ownBlock ∧ some k_ ≠ ((.slice Ao23 t204.length co23) : Value).ownBlock) (.slice Ao28 t211.length co28) t211) ∧ Aside0 (Kd.Q Kd.string 9 wc w.heap.size (fun k_ => some k_ ≠ ((.slice Ao29 t201.length co29) : Value).ownBlock ∧ some k_ ≠ ((.slice Ao28 t211.length co28) : Value).ownBlock) (.slice Ao23 t204.length co23) t204) ∧ Aside0 (Kd.Q k65 65 wc w.heap.size (fun _ => True) (.slice Ao26 t207.length co26) t207) ∧ Aside0 (wc.heap[gb193]? = some (.cells #[(.slice A0_0 l0_0.length c0_0), (.slice A0_1 l0_1.length c0_1)] 25 (0, 0))) ∧ Aside0 (wc.heap[gb210]? = some (.cells #[(.slice Ao23 t204.length co23), (.slice Ao26 t207.length co26)] 30 (0, 0))) ∧ Aside0 (Below w.heap.size w wc))
     case first =>
      have H := HC33.out
      clear HC33
      by_cases c39 : t221 = true
      ·subst c39
       rw [if_pos rfl] at H
       have H' := aM H
       clear H
       go_wp2
       go_meet
       case rel => exact ⟨_, H', ⟨by have := HJ3.out; have := HJ13.out; first | omega | exact Nat.le_refl _⟩, ⟨rP (Kd.R_mono HO_6.out (fun _ hk => ⟨hk.1.1, hk.1.2⟩))⟩, ⟨by (with_reducible repeat (first | apply Kd.Q_alloc | apply Kd.Q_drewN | apply Kd.Q_drew)); exact Kd.Q_mono HO_8.out (fun _ hk => ⟨hk.1.1, hk.1.2⟩)⟩, ⟨by (with_reducible repeat (first | apply Kd.Q_alloc | apply Kd.Q_drewN | apply Kd.Q_drew)); exact Kd.Q_mono HO_211000.out (fun _ hk => ⟨hk.1.1, hk.1.2⟩)⟩, ⟨by (with_reducible repeat (first | apply Kd.Q_alloc | apply Kd.Q_drewN | apply Kd.Q_drew)); exact Kd.Q_mono HO_211001.out (fun _ hk => trivial)⟩, ⟨kP BK193⟩, ⟨kP BK210⟩, ⟨bB⟩⟩
      ·replace c39 := Bool.eq_false_iff.mpr c39
       subst c39
       rw [if_neg (show ¬ (false = true) by decide)] at H
       obtain rfl := Option.some.inj H
       go_wp2
       go_ret
       exact ⟨eW, bB⟩
     case rest =>
      clear HC33
      try clear c1
      try clear c2
      try clear p2
      try clear c3
      try clear c5
      try clear c8
      try clear c8b0
      try clear c8b1
      try clear c8b2
      try clear c15
      try clear c17
      try clear c19
      try clear c22
      try clear c23
      try clear c24
      try clear c30
      try clear c39
      try clear hcz15_0
      try clear hcz15_1
      try clear hcz20_0
      try clear hcz20_1
      try clear hcz25_0
      try clear hcz25_1
      try clear hcz6_0
      try clear hcz6_1
      try clear hfz15_0
      try clear hfz15_1
      try clear hfz20_0
      try clear hfz20_1
      try clear hfz25_0
      try clear hfz25_1
      try clear hfz6_0
      try clear hfz6_1
      try clear p2
      obtain ⟨kq, HA, HJ32, HO_6, HO_8, HO_211000, HO_211001, BK193, BK210, HB⟩ := hcut
      cases kq with
      | zero => exact absurd HA.out (by simp [laws_FnExactHomeOf.j2])
      | succ kj32 =>
       have H := HA.out
       clear HA
       simp only [laws_FnExactHomeOf.j2] at H
       replace H := Option.bind_eq_some_iff.mp H
       obtain ⟨⟨t222, t223, t224⟩, A400, H⟩ := H
       try dsimp only at H
       have A40 := aM A400
       clear A400
       have HC41 := aM H
       clear H
       have hnb42 := NB210_193.out
       have hnc42 := NB193_210.out
       have hcz43_0 := cZ0 BK210
       have hcz43_1 := cZ1 BK210
       have hfz43_0 := fZ BK210 0
       have hfz43_1 := fZ BK210 1
       go_upto_region 14 with (first | ((with_reducible refine gate_callee (f := 25) rfl ?_); refine gL (some 38) Try.func25 #[.agg #[.slice Ao23 t204.length co23, .slice Ao26 t207.length co26], .int .i64 1] ?_; (with_reducible refine (laws_markDisk.calls kj32 (fun k_ => some k_ = (.slice Ao23 t204.length co23 : Value).ownBlock) (.slice Ao23 t204.length co23) t204 (fun k_ => some k_ = (.slice Ao26 t207.length co26 : Value).ownBlock) (.slice Ao26 t207.length co26) t207 1 t222 t223 t224 w _ ?side1 ?side2 ?side3 A40.out).mono ?_); (case side1 => exact bB); (case side2 => exact Kd.Q_tight rfl HO_211000.out); (case side3 => exact Kd.Q_tight rfl HO_211001.out); rintro e w44 ⟨rfl, hy0, hy1, hb, hkp⟩; refine ⟨_, rfl, ?_⟩; have n_ := aI (aM (Kd.R_mono (ok' := fun k_ => some k_ ≠ (.slice Ao28 t211.length co28 : Value).ownBlock ∧ some k_ ≠ (.slice Ao23 t204.length co23 : Value).ownBlock) (Kd.R_keptB ((Kd.R_apart' HO_6.out (Kd.Q_typed HO_211001.out) (by decide))) hkp (fun k_ hk_ hs_ => Or.elim hs_ (fun e_ => (hk_.1.2) e_) (fun e_ => (hk_.2) e_))) (fun k_ hk_ => ⟨hk_.1.1.1, hk_.1.1.2⟩))) (aI (aM (Kd.Q_mono (ok' := fun k_ => some k_ ≠ (.slice Ao29 t201.length co29 : Value).ownBlock ∧ some k_ ≠ (.slice Ao23 t204.length co23 : Value).ownBlock) (Kd.Q_keptB ((Kd.Q_apart' HO_8.out (Kd.Q_typed HO_211001.out) (by decide))) hkp (fun k_ hk_ hs_ => Or.elim hs_ (fun e_ => (hk_.1.2) e_) (fun e_ => (hk_.2) e_))) (fun k_ hk_ => ⟨hk_.1.1.1, hk_.1.1.2⟩))) (aI (aM (Kd.Q_reok rfl hy0 (fun k_ e_ => HO_211000.out.1 k_ e_))) (aI (aM (Kd.Q_reok rfl hy1 (fun k_ e_ => HO_211001.out.1 k_ e_))) (aI (aM (blk_kept (kP BK193) hkp (fun hs_ => Or.elim hs_ (fun e_ => (fun e_ => (Kd.Q_ne HO_211000.out BK193.out (by decide)) e_) e_) (fun e_ => (fun e_ => (Kd.Q_ne HO_211001.out BK193.out (by decide)) e_) e_)))) (aI (aM (blk_kept (kP BK210) hkp (fun hs_ => Or.elim hs_ (fun e_ => (fun e_ => (Kd.Q_ne HO_211000.out BK210.out (by decide)) e_) e_) (fun e_ => (fun e_ => (Kd.Q_ne HO_211001.out BK210.out (by decide)) e_) e_)))) (aM (hb))))))); clear HO_6 HO_8 HO_211000 HO_211001 BK193 BK210 HB; obtain ⟨HO_6, HO_8, HO_211000, HO_211001, BK193, BK210, HB⟩ := n_; (try clear hb hkp hy0 hy1)))
       (try simp only [Act.put, List.setIfInBounds_toArray, List.set_cons_zero, List.set_cons_succ])
       go_cut [46] (fun v46 wc => ∃ (kq : Nat) (x46_40 : Bool), v46 = .bool x46_40 ∧ Aside0 (laws_FnExactHomeOf.j3 kq a1 t201 t211 x46_40 l0_0 l0_1 = some r) ∧ Aside0 (kq ≤ kj32) ∧ Aside0 (Kd.R Kd.string 9 wc w.heap.size (fun k_ => some k_ ≠ ((.slice Ao28 t211.length co28) : Value).ownBlock ∧ some k_ ≠ ((.slice Ao23 t204.length co23) : Value).ownBlock) (.slice Ao29 t201.length co29) t201) ∧ Aside0 (Kd.Q Kd.string 9 wc w.heap.size (fun k_ => some k_ ≠ ((.slice Ao29 t201.length co29) : Value).ownBlock ∧ some k_ ≠ ((.slice Ao23 t204.length co23) : Value).ownBlock) (.slice Ao28 t211.length co28) t211) ∧ Aside0 (Kd.Q Kd.string 9 wc w.heap.size (fun k_ => some k_ ≠ ((.slice Ao29 t201.length co29) : Value).ownBlock ∧ some k_ ≠ ((.slice Ao28 t211.length co28) : Value).ownBlock) (.slice Ao23 t204.length co23) t223) ∧ Aside0 (Kd.Q k65 65 wc w.heap.size (fun _ => True) (.slice Ao26 t207.length co26) t224) ∧ Aside0 (wc.heap[gb193]? = some (.cells #[(.slice A0_0 l0_0.length c0_0), (.slice A0_1 l0_1.length c0_1)] 25 (0, 0))) ∧ Aside0 (wc.heap[gb210]? = some (.cells #[(.slice Ao23 t204.length co23), (.slice Ao26 t207.length co26)] 30 (0, 0))) ∧ Aside0 (Below w.heap.size w wc))
       case first =>
        have H := HC41.out
        clear HC41
        by_cases c45 : t222 < 0
        ·rw [if_pos c45] at H
         have c45b0 : decide (t222 < 0) = true := decide_eq_true c45
         clear c45
         (first | rw [c45b0] | (simp only [i64_w, i32_w]; rw [c45b0]) | rw [c45b1] | rw [c45b2] | skip)
         have H' := aM H
         clear H
         go_wp2
         go_meet
         case rel => exact ⟨_, (true), (by first | rfl | (simp; done) | (simp [*]; done) | (simp; exact (by intro l_; cases l_ <;> rfl : ∀ l_ : List UInt8, l_.isEmpty = !(l_ != [])) _)), H', ⟨by have := HJ3.out; have := HJ13.out; have := HJ32.out; first | omega | exact Nat.le_refl _⟩, ⟨rP HO_6.out⟩, ⟨by (with_reducible repeat (first | apply Kd.Q_alloc | apply Kd.Q_drewN | apply Kd.Q_drew)); exact HO_8.out⟩, ⟨by (with_reducible repeat (first | apply Kd.Q_alloc | apply Kd.Q_drewN | apply Kd.Q_drew)); exact HO_211000.out⟩, ⟨by (with_reducible repeat (first | apply Kd.Q_alloc | apply Kd.Q_drewN | apply Kd.Q_drew)); exact HO_211001.out⟩, ⟨kP BK193⟩, ⟨kP BK210⟩, ⟨bB⟩⟩
        ·rw [if_neg c45] at H
         have c45b0 : decide (t222 < 0) = false := decide_eq_false c45
         clear c45
         (first | rw [c45b0] | (simp only [i64_w, i32_w]; rw [c45b0]) | rw [c45b1] | rw [c45b2] | skip)
         replace H := Option.bind_eq_some_iff.mp H
         obtain ⟨t225, A460, H⟩ := H
         try dsimp only at H
         have A46 := aM A460
         clear A460
         have H' := aM H
         clear H
         go_wp2_with (first | (go_at_call 24; (with_reducible refine (laws_eqStringS.calls kj32 _ _ t211 _ _ t201 t225 _ ?side1 ?side2 ?side3 ?side4 A46.out).mono ?_); (case side1 => repeat (first | exact (Kd.Q_reads' HO_8.out).2.2 | (with_reducible refine Kd.C_alloc ?_ _) | (with_reducible refine Kd.C_drewN ?_ _) | (with_reducible refine Kd.C_drew ?_))); (case side2 => exact (Kd.Q_reads' HO_8.out).2.1); (case side3 => exact cR HO_6); (case side4 => exact (Kd.R_reads' HO_6.out).2.1); rintro e w' ⟨rfl, ⟨nd, rfl⟩⟩))
         go_meet
         case rel => exact ⟨_, (!t225), (by first | rfl | (simp; done) | (simp [*]; done) | (simp; exact (by intro l_; cases l_ <;> rfl : ∀ l_ : List UInt8, l_.isEmpty = !(l_ != [])) _)), H', ⟨by have := HJ3.out; have := HJ13.out; have := HJ32.out; first | omega | exact Nat.le_refl _⟩, ⟨rP HO_6.out⟩, ⟨by (with_reducible repeat (first | apply Kd.Q_alloc | apply Kd.Q_drewN | apply Kd.Q_drew)); exact HO_8.out⟩, ⟨by (with_reducible repeat (first | apply Kd.Q_alloc | apply Kd.Q_drewN | apply Kd.Q_drew)); exact HO_211000.out⟩, ⟨by (with_reducible repeat (first | apply Kd.Q_alloc | apply Kd.Q_drewN | apply Kd.Q_drew)); exact HO_211001.out⟩, ⟨kP BK193⟩, ⟨kP BK210⟩, ⟨bB⟩⟩
       case rest =>
        clear HC41
        try clear c1
        try clear c2
        try clear p2
        try clear c3
        try clear c4
        try clear c5
        try clear c8
        try clear c8b0
        try clear c8b1
        try clear c8b2
        try clear c15
        try clear c17
        try clear c19
        try clear c22
        try clear c23
        try clear c24
        try clear c25
        try clear c30
        try clear c39
        try clear c42
        try clear c45
        try clear c45b0
        try clear c45b1
        try clear c45b2
        try clear hcz15_0
        try clear hcz15_1
        try clear hcz20_0
        try clear hcz20_1
        try clear hcz25_0
        try clear hcz25_1
        try clear hcz43_0
        try clear hcz43_1
        try clear hcz6_0
        try clear hcz6_1
        try clear hfz15_0
        try clear hfz15_1
        try clear hfz20_0
        try clear hfz20_1
        try clear hfz25_0
        try clear hfz25_1
        try clear hfz43_0
        try clear hfz43_1
        try clear hfz6_0
        try clear hfz6_1
        try clear p2
        obtain ⟨kq, x46_40, rfl, HA, HJ40, HO_6, HO_8, HO_211000, HO_211001, BK193, BK210, HB⟩ := hcut
        have hl211000_40 := (Kd.Q_reads' HO_211000.out).1
        rw [hl211000_40] at HO_211000
        (try simp only [hl211000_40])
        (try simp only [hl211000_40] at BK193)
        (try simp only [hl211000_40] at BK210)
        (try simp only [hl211000_40] at HO_6)
        (try simp only [hl211000_40] at HO_8)
        (try simp only [hl211000_40] at HO_211001)
        have hl211001_40 := (Kd.Q_reads' HO_211001.out).1
        rw [hl211001_40] at HO_211001
        (try simp only [hl211001_40])
        (try simp only [hl211001_40] at BK193)
        (try simp only [hl211001_40] at BK210)
        (try simp only [hl211001_40] at HO_6)
        (try simp only [hl211001_40] at HO_8)
        (try simp only [hl211001_40] at HO_211000)
        cases kq with
        | zero => exact absurd HA.out (by simp [laws_FnExactHomeOf.j3])
        | succ kj40 =>
         have H := HA.out
         clear HA
         simp only [laws_FnExactHomeOf.j3] at H
         have HC47 := aM H
         clear H
         go_upto_if 46 with (fail)
         go_cut [] (fun wc => ∃ (kq : Nat), Aside0 (laws_FnExactHomeOf.j4 kq a1 t201 t211 l0_0 l0_1 = some r) ∧ Aside0 (kq ≤ kj40) ∧ Aside0 (Kd.R Kd.string 9 wc w.heap.size (fun k_ => some k_ ≠ ((.slice Ao28 t211.length co28) : Value).ownBlock ∧ some k_ ≠ ((.slice Ao23 t223.length co23) : Value).ownBlock) (.slice Ao29 t201.length co29) t201) ∧ Aside0 (Kd.Q Kd.string 9 wc w.heap.size (fun k_ => some k_ ≠ ((.slice Ao29 t201.length co29) : Value).ownBlock ∧ some k_ ≠ ((.slice Ao23 t223.length co23) : Value).ownBlock) (.slice Ao28 t211.length co28) t211) ∧ Aside0 (Kd.Q Kd.string 9 wc w.heap.size (fun k_ => some k_ ≠ ((.slice Ao29 t201.length co29) : Value).ownBlock ∧ some k_ ≠ ((.slice Ao28 t211.length co28) : Value).ownBlock) (.slice Ao23 t223.length co23) t223) ∧ Aside0 (Kd.Q k65 65 wc w.heap.size (fun _ => True) (.slice Ao26 t224.length co26) t224) ∧ Aside0 (wc.heap[gb193]? = some (.cells #[(.slice A0_0 l0_0.length c0_0), (.slice A0_1 l0_1.length c0_1)] 25 (0, 0))) ∧ Aside0 (wc.heap[gb210]? = some (.cells #[(.slice Ao23 t223.length co23), (.slice Ao26 t224.length co26)] 30 (0, 0))) ∧ Aside0 (Below w.heap.size w wc))
         case first =>
          have H := HC47.out
          clear HC47
          by_cases c48 : x46_40 = true
          ·subst c48
           rw [if_pos rfl] at H
           obtain rfl := Option.some.inj H
           go_wp2
           go_ret
           exact ⟨eW, bB⟩
          ·replace c48 := Bool.eq_false_iff.mpr c48
           subst c48
           rw [if_neg (show ¬ (false = true) by decide)] at H
           have H' := aM H
           clear H
           go_wp2
           go_meet
           case rel => exact ⟨_, H', ⟨by have := HJ3.out; have := HJ13.out; have := HJ32.out; have := HJ40.out; first | omega | exact Nat.le_refl _⟩, ⟨by (try simp only [hl211000_40]); (try simp only [hl211001_40]); (with_reducible repeat (first | apply Kd.R_alloc | apply Kd.R_drewN | apply Kd.R_drew)); exact HO_6.out⟩, ⟨by (try simp only [hl211000_40]); (try simp only [hl211001_40]); (with_reducible repeat (first | apply Kd.Q_alloc | apply Kd.Q_drewN | apply Kd.Q_drew)); exact HO_8.out⟩, ⟨by (try simp only [hl211000_40]); (try simp only [hl211001_40]); (with_reducible repeat (first | apply Kd.Q_alloc | apply Kd.Q_drewN | apply Kd.Q_drew)); exact HO_211000.out⟩, ⟨by (try simp only [hl211000_40]); (try simp only [hl211001_40]); (with_reducible repeat (first | apply Kd.Q_alloc | apply Kd.Q_drewN | apply Kd.Q_drew)); exact HO_211001.out⟩, ⟨by (try simp only [hl211000_40]); (try simp only [hl211001_40]); (with_reducible repeat (first | apply bN | apply bD | apply bA)); exact BK193.out⟩, ⟨by (try simp only [hl211000_40]); (try simp only [hl211001_40]); (with_reducible repeat (first | apply bN | apply bD | apply bA)); exact BK210.out⟩, ⟨bB⟩⟩
         case rest =>
          clear HC47
          try clear c1
          try clear c2
          try clear p2
          try clear c3
          try clear c4
          try clear c5
          try clear c8
          try clear c8b0
          try clear c8b1
          try clear c8b2
          try clear c15
          try clear c17
          try clear c19
          try clear c22
          try clear c23
          try clear c24
          try clear c25
          try clear c30
          try clear c39
          try clear c42
          try clear c45
          try clear c45b0
          try clear c45b1
          try clear c45b2
          try clear c48
          try clear hcz15_0
          try clear hcz15_1
          try clear hcz20_0
          try clear hcz20_1
          try clear hcz25_0
          try clear hcz25_1
          try clear hcz43_0
          try clear hcz43_1
          try clear hcz6_0
          try clear hcz6_1
          try clear hfz15_0
          try clear hfz15_1
          try clear hfz20_0
          try clear hfz20_1
          try clear hfz25_0
          try clear hfz25_1
          try clear hfz43_0
          try clear hfz43_1
          try clear hfz6_0
          try clear hfz6_1
          try clear p2
          obtain ⟨kq, HA, HJ46, HO_6, HO_8, HO_211000, HO_211001, BK193, BK210, HB⟩ := hcut
          cases kq with
          | zero => exact absurd HA.out (by simp [laws_FnExactHomeOf.j4])
          | succ kj46 =>
           have H := HA.out
           clear HA
           simp only [laws_FnExactHomeOf.j4] at H
           replace H := Option.bind_eq_some_iff.mp H
           obtain ⟨⟨t226, t227⟩, A490, H⟩ := H
           try dsimp only at H
           have A49 := aM A490
           clear A490
           replace H := Option.bind_eq_some_iff.mp H
           obtain ⟨t228, A500, H⟩ := H
           try dsimp only at H
           have A50 := aM A500
           clear A500
           have HC51 := aM H
           clear H
           go_upto_if 54 with (first | ((with_reducible refine gate_callee (f := 26) rfl ?_); refine gL (some 49) Try.func26 #[.slice Ao28 t211.length co28, .int .i64 1] ?_; (with_reducible refine (laws_markStringS.calls kj46 (fun k_ => some k_ = (.slice Ao28 t211.length co28 : Value).ownBlock) (.slice Ao28 t211.length co28) t211 1 t226 t227 w _ ?side1 ?side2 A49.out).mono ?_); (case side1 => exact bB); (case side2 => exact Kd.Q_tight rfl HO_8.out); rintro e w52 ⟨rfl, hy0, hb, hkp⟩; refine ⟨_, rfl, ?_⟩; have n_ := aI (aM (Kd.R_mono (ok' := fun k_ => some k_ ≠ (.slice Ao28 t211.length co28 : Value).ownBlock ∧ some k_ ≠ (.slice Ao23 t223.length co23 : Value).ownBlock) (Kd.R_keptB (HO_6.out) hkp (fun k_ hk_ hs_ => (hk_.1) hs_)) (fun k_ hk_ => ⟨hk_.1.1, hk_.1.2⟩))) (aI (aM (Kd.Q_reok rfl hy0 (fun k_ e_ => HO_8.out.1 k_ e_))) (aI (aM (Kd.Q_mono (ok' := fun k_ => some k_ ≠ (.slice Ao29 t201.length co29 : Value).ownBlock ∧ some k_ ≠ (.slice Ao28 t211.length co28 : Value).ownBlock) (Kd.Q_keptB (HO_211000.out) hkp (fun k_ hk_ hs_ => (hk_.2) hs_)) (fun k_ hk_ => ⟨hk_.1.1, hk_.1.2⟩))) (aI (aM (Kd.Q_mono (ok' := fun k_ => True) (Kd.Q_keptB ((Kd.Q_apart' HO_211001.out (Kd.Q_typed HO_8.out) (by decide))) hkp (fun k_ hk_ hs_ => (hk_.2) hs_)) (fun k_ hk_ => trivial))) (aI (aM (blk_kept (kP BK193) hkp (fun hs_ => (fun e_ => (Kd.Q_ne HO_8.out BK193.out (by decide)) e_) hs_))) (aI (aM (blk_kept (kP BK210) hkp (fun hs_ => (fun e_ => (Kd.Q_ne HO_8.out BK210.out (by decide)) e_) hs_))) (aM (hb))))))); clear HO_6 HO_8 HO_211000 HO_211001 BK193 BK210 HB; obtain ⟨HO_6, HO_8, HO_211000, HO_211001, BK193, BK210, HB⟩ := n_; (try clear hb hkp hy0)) | ((with_reducible refine gate_callee (f := 27) rfl ?_); refine goesL_ (some 52) rfl rfl Try.func27 (by kernel_rfl) rfl #[.slice Ao28 t227.length co28, .int .i64 1] rfl (by (try simp only [List.map_toArray, List.map_cons, List.map_nil]); first | done | (rw [show t227.length = t211.length from (Kd.Q_reads' HO_8.out).1.symm] <;> rfl) | rfl | (simp only [List.length_drop, List.length_take]; rfl)) ?_; (with_reducible refine (laws_heldStringS.calls kj46 _ _ t227 1 t228 _ ?side1 ?side2 A50.out).mono ?_); (case side1 => repeat (first | exact (Kd.Q_reads' HO_8.out).2.2 | (with_reducible refine Kd.C_alloc ?_ _) | (with_reducible refine Kd.C_drewN ?_ _) | (with_reducible refine Kd.C_drew ?_))); (case side2 => rw [show t227.length = t211.length from (Kd.Q_reads' HO_8.out).1.symm]; exact (Kd.Q_reads' HO_8.out).2.1); rintro e w53 ⟨rfl, hb⟩; refine ⟨_, rfl, ?_⟩; have n_ := aI (rB HO_6 hb) (aI (aM (Kd.Q_below (by (with_reducible repeat (first | apply Kd.Q_alloc | apply Kd.Q_drewN | apply Kd.Q_drew)); exact HO_8.out) hb)) (aI (aM (Kd.Q_below (by (with_reducible repeat (first | apply Kd.Q_alloc | apply Kd.Q_drewN | apply Kd.Q_drew)); exact HO_211000.out) hb)) (aI (aM (Kd.Q_below (by (with_reducible repeat (first | apply Kd.Q_alloc | apply Kd.Q_drewN | apply Kd.Q_drew)); exact HO_211001.out) hb)) (aI (kB BK193 hb) (aI (kB BK210 hb) (sB HB hb)))))); clear HO_6 HO_8 HO_211000 HO_211001 BK193 BK210 HB; obtain ⟨HO_6, HO_8, HO_211000, HO_211001, BK193, BK210, HB⟩ := n_; (try clear hb)))
           (try simp only [Act.put, List.setIfInBounds_toArray, List.set_cons_zero, List.set_cons_succ])
           go_cut [] (fun wc => ∃ (kq : Nat), Aside0 (laws_FnExactHomeOf.j5 kq a1 t201 t227 t226 t228 l0_0 l0_1 = some r) ∧ Aside0 (kq ≤ kj46) ∧ Aside0 (Kd.R Kd.string 9 wc w.heap.size (fun k_ => some k_ ≠ ((.slice Ao28 t211.length co28) : Value).ownBlock ∧ some k_ ≠ ((.slice Ao23 t223.length co23) : Value).ownBlock) (.slice Ao29 t201.length co29) t201) ∧ Aside0 (Kd.Q Kd.string 9 wc w.heap.size (fun k_ => some k_ ≠ ((.slice Ao29 t201.length co29) : Value).ownBlock ∧ some k_ ≠ ((.slice Ao23 t223.length co23) : Value).ownBlock) (.slice Ao28 t211.length co28) t227) ∧ Aside0 (Kd.Q Kd.string 9 wc w.heap.size (fun k_ => some k_ ≠ ((.slice Ao29 t201.length co29) : Value).ownBlock ∧ some k_ ≠ ((.slice Ao28 t211.length co28) : Value).ownBlock) (.slice Ao23 t223.length co23) t223) ∧ Aside0 (Kd.Q k65 65 wc w.heap.size (fun _ => True) (.slice Ao26 t224.length co26) t224) ∧ Aside0 (wc.heap[gb193]? = some (.cells #[(.slice A0_0 l0_0.length c0_0), (.slice A0_1 l0_1.length c0_1)] 25 (0, 0))) ∧ Aside0 (wc.heap[gb210]? = some (.cells #[(.slice Ao23 t223.length co23), (.slice Ao26 t224.length co26)] 30 (0, 0))) ∧ Aside0 (Below w.heap.size w wc))
           case first =>
            have H := HC51.out
            clear HC51
            by_cases c54 : t228 < 0
            ·rw [if_pos c54] at H
             have c54b0 : decide (t228 < 0) = true := decide_eq_true c54
             clear c54
             (first | rw [c54b0] | (simp only [i64_w, i32_w]; rw [c54b0]) | rw [c54b1] | rw [c54b2] | skip)
             obtain rfl := Option.some.inj H
             go_wp2
             go_ret
             exact ⟨eW, bB⟩
            ·rw [if_neg c54] at H
             have c54b0 : decide (t228 < 0) = false := decide_eq_false c54
             clear c54
             (first | rw [c54b0] | (simp only [i64_w, i32_w]; rw [c54b0]) | rw [c54b1] | rw [c54b2] | skip)
             have H' := aM H
             clear H
             go_wp2
             go_meet
             case rel => exact ⟨_, H', ⟨by have := HJ3.out; have := HJ13.out; have := HJ32.out; have := HJ40.out; have := HJ46.out; first | omega | exact Nat.le_refl _⟩, ⟨by (try simp only [hl211000_40]); (try simp only [hl211001_40]); (with_reducible repeat (first | apply Kd.R_alloc | apply Kd.R_drewN | apply Kd.R_drew)); exact HO_6.out⟩, ⟨by (try simp only [hl211000_40]); (try simp only [hl211001_40]); (with_reducible repeat (first | apply Kd.Q_alloc | apply Kd.Q_drewN | apply Kd.Q_drew)); exact HO_8.out⟩, ⟨by (try simp only [hl211000_40]); (try simp only [hl211001_40]); (with_reducible repeat (first | apply Kd.Q_alloc | apply Kd.Q_drewN | apply Kd.Q_drew)); exact HO_211000.out⟩, ⟨by (try simp only [hl211000_40]); (try simp only [hl211001_40]); (with_reducible repeat (first | apply Kd.Q_alloc | apply Kd.Q_drewN | apply Kd.Q_drew)); exact HO_211001.out⟩, ⟨by (try simp only [hl211000_40]); (try simp only [hl211001_40]); (with_reducible repeat (first | apply bN | apply bD | apply bA)); exact BK193.out⟩, ⟨by (try simp only [hl211000_40]); (try simp only [hl211001_40]); (with_reducible repeat (first | apply bN | apply bD | apply bA)); exact BK210.out⟩, ⟨bB⟩⟩
           case rest =>
            clear HC51
            try clear c1
            try clear c2
            try clear p2
            try clear c3
            try clear c4
            try clear c5
            try clear c8
            try clear c8b0
            try clear c8b1
            try clear c8b2
            try clear c15
            try clear c17
            try clear c19
            try clear c22
            try clear c23
            try clear c24
            try clear c25
            try clear c26
            try clear c27
            try clear c30
            try clear c39
            try clear c42
            try clear c45
            try clear c45b0
            try clear c45b1
            try clear c45b2
            try clear c48
            try clear c54
            try clear c54b0
            try clear c54b1
            try clear c54b2
            try clear hcz15_0
            try clear hcz15_1
            try clear hcz20_0
            try clear hcz20_1
            try clear hcz25_0
            try clear hcz25_1
            try clear hcz43_0
            try clear hcz43_1
            try clear hcz6_0
            try clear hcz6_1
            try clear hfz15_0
            try clear hfz15_1
            try clear hfz20_0
            try clear hfz20_1
            try clear hfz25_0
            try clear hfz25_1
            try clear hfz43_0
            try clear hfz43_1
            try clear hfz6_0
            try clear hfz6_1
            try clear p2
            obtain ⟨kq, HA, HJ50, HO_6, HO_8, HO_211000, HO_211001, BK193, BK210, HB⟩ := hcut
            have hl8_50 := (Kd.Q_reads' HO_8.out).1
            rw [hl8_50] at HO_8
            (try simp only [hl8_50])
            (try simp only [hl8_50] at BK193)
            (try simp only [hl8_50] at BK210)
            (try simp only [hl8_50] at HO_6)
            (try simp only [hl8_50] at HO_211000)
            (try simp only [hl8_50] at HO_211001)
            cases kq with
            | zero => exact absurd HA.out (by simp [laws_FnExactHomeOf.j5])
            | succ kj50 =>
             have H := HA.out
             clear HA
             simp only [laws_FnExactHomeOf.j5] at H
             have HC55 := aM H
             clear H
             go_upto_if 57 with (fail)
             go_cut [] (fun wc => ∃ (kq : Nat), Aside0 (laws_FnExactHomeOf.j6 kq a1 t201 t227 t226 l0_0 l0_1 = some r) ∧ Aside0 (kq ≤ kj50) ∧ Aside0 (Kd.R Kd.string 9 wc w.heap.size (fun k_ => some k_ ≠ ((.slice Ao28 t227.length co28) : Value).ownBlock ∧ some k_ ≠ ((.slice Ao23 t223.length co23) : Value).ownBlock) (.slice Ao29 t201.length co29) t201) ∧ Aside0 (Kd.Q Kd.string 9 wc w.heap.size (fun k_ => some k_ ≠ ((.slice Ao29 t201.length co29) : Value).ownBlock ∧ some k_ ≠ ((.slice Ao23 t223.length co23) : Value).ownBlock) (.slice Ao28 t227.length co28) t227) ∧ Aside0 (Kd.Q Kd.string 9 wc w.heap.size (fun k_ => some k_ ≠ ((.slice Ao29 t201.length co29) : Value).ownBlock ∧ some k_ ≠ ((.slice Ao28 t227.length co28) : Value).ownBlock) (.slice Ao23 t223.length co23) t223) ∧ Aside0 (Kd.Q k65 65 wc w.heap.size (fun _ => True) (.slice Ao26 t224.length co26) t224) ∧ Aside0 (wc.heap[gb193]? = some (.cells #[(.slice A0_0 l0_0.length c0_0), (.slice A0_1 l0_1.length c0_1)] 25 (0, 0))) ∧ Aside0 (wc.heap[gb210]? = some (.cells #[(.slice Ao23 t223.length co23), (.slice Ao26 t224.length co26)] 30 (0, 0))) ∧ Aside0 (Below w.heap.size w wc))
             case first =>
              have H := HC55.out
              clear HC55
              by_cases c56 : t228 = t226
              ·rw [if_pos c56] at H
               have c56b0 : (t228 == t226) = true := beq_iff_eq.mpr c56
               have c56b1 : (t228 != t226) = false := bne_eq_false_iff_eq.mpr c56
               clear c56
               (first | rw [c56b0] | (simp only [i64_w, i32_w]; rw [c56b0]) | rw [c56b1] | rw [c56b2] | skip)
               have H' := aM H
               clear H
               go_wp2
               go_meet
               case rel => exact ⟨_, H', ⟨by have := HJ3.out; have := HJ13.out; have := HJ32.out; have := HJ40.out; have := HJ46.out; have := HJ50.out; first | omega | exact Nat.le_refl _⟩, ⟨by (try simp only [hl211000_40]); (try simp only [hl211001_40]); (try simp only [hl8_50]); (with_reducible repeat (first | apply Kd.R_alloc | apply Kd.R_drewN | apply Kd.R_drew)); exact HO_6.out⟩, ⟨by (try simp only [hl211000_40]); (try simp only [hl211001_40]); (try simp only [hl8_50]); (with_reducible repeat (first | apply Kd.Q_alloc | apply Kd.Q_drewN | apply Kd.Q_drew)); exact HO_8.out⟩, ⟨by (try simp only [hl211000_40]); (try simp only [hl211001_40]); (try simp only [hl8_50]); (with_reducible repeat (first | apply Kd.Q_alloc | apply Kd.Q_drewN | apply Kd.Q_drew)); exact HO_211000.out⟩, ⟨by (try simp only [hl211000_40]); (try simp only [hl211001_40]); (try simp only [hl8_50]); (with_reducible repeat (first | apply Kd.Q_alloc | apply Kd.Q_drewN | apply Kd.Q_drew)); exact HO_211001.out⟩, ⟨by (try simp only [hl211000_40]); (try simp only [hl211001_40]); (try simp only [hl8_50]); (with_reducible repeat (first | apply bN | apply bD | apply bA)); exact BK193.out⟩, ⟨by (try simp only [hl211000_40]); (try simp only [hl211001_40]); (try simp only [hl8_50]); (with_reducible repeat (first | apply bN | apply bD | apply bA)); exact BK210.out⟩, ⟨bB⟩⟩
              ·rw [if_neg c56] at H
               have c56b0 : (t228 == t226) = false := beq_eq_false_iff_ne.mpr c56
               have c56b1 : (t228 != t226) = true := bne_iff_ne.mpr c56
               (first | rw [c56b0] | (simp only [i64_w, i32_w]; rw [c56b0]) | rw [c56b1] | rw [c56b2] | skip)
               obtain rfl := Option.some.inj H
               go_wp2
               go_ret
               exact ⟨eW, bB⟩
             case rest =>
              clear HC55
              try clear c1
              try clear c2
              try clear p2
              try clear c3
              try clear c4
              try clear c5
              try clear c8
              try clear c8b0
              try clear c8b1
              try clear c8b2
              try clear c15
              try clear c17
              try clear c19
              try clear c22
              try clear c23
              try clear c24
              try clear c25
              try clear c26
              try clear c27
              try clear c30
              try clear c39
              try clear c42
              try clear c45
              try clear c45b0
              try clear c45b1
              try clear c45b2
              try clear c48
              try clear c54
              try clear c54b0
              try clear c54b1
              try clear c54b2
              try clear c56
              try clear c56b0
              try clear c56b1
              try clear c56b2
              try clear hcz15_0
              try clear hcz15_1
              try clear hcz20_0
              try clear hcz20_1
              try clear hcz25_0
              try clear hcz25_1
              try clear hcz43_0
              try clear hcz43_1
              try clear hcz6_0
              try clear hcz6_1
              try clear hfz15_0
              try clear hfz15_1
              try clear hfz20_0
              try clear hfz20_1
              try clear hfz25_0
              try clear hfz25_1
              try clear hfz43_0
              try clear hfz43_1
              try clear hfz6_0
              try clear hfz6_1
              try clear p2
              obtain ⟨kq, HA, HJ54, HO_6, HO_8, HO_211000, HO_211001, BK193, BK210, HB⟩ := hcut
              cases kq with
              | zero => exact absurd HA.out (by simp [laws_FnExactHomeOf.j6])
              | succ kj54 =>
               have H := HA.out
               clear HA
               simp only [laws_FnExactHomeOf.j6] at H
               replace H := Option.bind_eq_some_iff.mp H
               obtain ⟨⟨t229, t232⟩, A570, H⟩ := H
               try dsimp only at H
               have A57 := aM A570
               clear A570
               replace H := Option.bind_eq_some_iff.mp H
               obtain ⟨t235, A580, H⟩ := H
               try dsimp only at H
               have A58 := aM A580
               clear A580
               replace H := Option.bind_eq_some_iff.mp H
               obtain ⟨t238, A590, H⟩ := H
               try dsimp only at H
               have A59 := aM A590
               clear A590
               have HC60 := aM H
               clear H
               have hnb61 := NB193_210.out
               have hnc61 := NB210_193.out
               have hcz62_0 := cZ0 BK193
               have hcz62_1 := cZ1 BK193
               have hfz62_0 := fZ BK193 0
               have hfz62_1 := fZ BK193 1
               go_upto_if 65 with (first | ((with_reducible refine gate_callee (f := 17) rfl ?_); refine gL (some 59) Try.func17 #[.agg #[.slice A0_0 l0_0.length c0_0, .slice A0_1 l0_1.length c0_1]] ?_; (with_reducible refine (laws_toDisk.calls kj54 _ _ l0_0 _ _ l0_1 t229 t232 _ ?side1 ?side2 ?side3 ?side4 A57.out).mono ?_); (case side1 => exact cS HR0_0 HB); (case side2 => exact HC0_0.out); (case side3 => exact cS HR0_1 HB); (case side4 => exact HC0_1.out); rintro e w63 ⟨v230, v233, rfl, ho0, ho1, hb⟩; refine ⟨_, rfl, ?_⟩; have n_ := aI (eR HO_6 ho0 hb) (aI (aM (Kd.Q_elder' (by (with_reducible repeat (first | apply Kd.Q_alloc | apply Kd.Q_drewN | apply Kd.Q_drew)); exact HO_8.out) (Kd.R_base ho0) hb)) (aI (aM (Kd.Q_elder' (by (with_reducible repeat (first | apply Kd.Q_alloc | apply Kd.Q_drewN | apply Kd.Q_drew)); exact HO_211000.out) (Kd.R_base ho0) hb)) (aI (aM (Kd.Q_elder' (by (with_reducible repeat (first | apply Kd.Q_alloc | apply Kd.Q_drewN | apply Kd.Q_drew)); exact HO_211001.out) (Kd.R_base ho1) hb)) (aI (aM (Kd.R_lower (Kd.R_new' (Kd.R_new' (Kd.R_new' ho0 (rL HO_6)) (Kd.Q_lt (by (with_reducible repeat (first | apply Kd.Q_alloc | apply Kd.Q_drewN | apply Kd.Q_drew)); exact HO_8.out))) (Kd.Q_lt (by (with_reducible repeat (first | apply Kd.Q_alloc | apply Kd.Q_drewN | apply Kd.Q_drew)); exact HO_211000.out))) (zB HB))) (aI (aM (Kd.R_lower (Kd.R_new' ho1 (Kd.Q_lt (by (with_reducible repeat (first | apply Kd.Q_alloc | apply Kd.Q_drewN | apply Kd.Q_drew)); exact HO_211001.out))) (zB HB))) (aI (kB BK193 hb) (aI (kB BK210 hb) (sB HB hb)))))))); clear HO_6 HO_8 HO_211000 HO_211001 BK193 BK210 HB; obtain ⟨HO_6, HO_8, HO_211000, HO_211001, HO231, HO234, BK193, BK210, HB⟩ := n_; (try clear hb ho0 ho1); obtain ⟨Ao64, co64, eo64⟩ := Kd.R_slice HO231.out; subst eo64; obtain ⟨Ao65, co65, eo65⟩ := Kd.R_slice HO234.out; subst eo65) | ((with_reducible refine gate_callee (f := 23) rfl ?_); refine gL (some 61) Try.func23 #[.agg #[.slice Ao64 t229.length co64, .slice Ao65 t232.length co65], .int .i64 a1] ?_; (with_reducible refine (impl_HomeOf.calls kj54 _ _ t229 _ _ t232 a1 t235 _ ?side1 ?side2 ?side3 ?side4 A58.out).mono ?_); (case side1 => exact cR HO231); (case side2 => exact (Kd.R_reads' HO231.out).2.1); (case side3 => exact cR HO234); (case side4 => exact (Kd.R_reads' HO234.out).2.1); rintro e w66 ⟨v236, rfl, ho0, hb⟩; refine ⟨_, rfl, ?_⟩; have n_ := aI (aM (Kd.R_elder' (rP HO_6.out) (Kd.Q_base ho0) hb)) (aI (aM (Kd.Q_elder' (by (with_reducible repeat (first | apply Kd.Q_alloc | apply Kd.Q_drewN | apply Kd.Q_drew)); exact HO_8.out) (Kd.Q_base ho0) hb)) (aI (aM (Kd.Q_elder' (by (with_reducible repeat (first | apply Kd.Q_alloc | apply Kd.Q_drewN | apply Kd.Q_drew)); exact HO_211000.out) (Kd.Q_base ho0) hb)) (aI (aM (Kd.Q_below (by (with_reducible repeat (first | apply Kd.Q_alloc | apply Kd.Q_drewN | apply Kd.Q_drew)); exact HO_211001.out) hb)) (aI (aM (Kd.R_elder' (rP HO231.out) (Kd.Q_base ho0) hb)) (aI (rB HO234 hb) (aI (aM (Kd.Q_lower (Kd.Q_new' (Kd.Q_new' (Kd.Q_new' (Kd.Q_new' ho0 (rL HO_6)) (Kd.Q_lt (by (with_reducible repeat (first | apply Kd.Q_alloc | apply Kd.Q_drewN | apply Kd.Q_drew)); exact HO_8.out))) (Kd.Q_lt (by (with_reducible repeat (first | apply Kd.Q_alloc | apply Kd.Q_drewN | apply Kd.Q_drew)); exact HO_211000.out))) (rL HO231)) (zB HB))) (aI (kB BK193 hb) (aI (kB BK210 hb) (sB HB hb))))))))); clear HO_6 HO_8 HO_211000 HO_211001 HO231 HO234 BK193 BK210 HB; obtain ⟨HO_6, HO_8, HO_211000, HO_211001, HO231, HO234, HO237, BK193, BK210, HB⟩ := n_; (try clear hb ho0); obtain ⟨Ao67, co67, eo67, _⟩ := Kd.Q_slice HO237.out; subst eo67) | ((with_reducible refine gate_callee (f := 24) rfl ?_); refine gL (some 64) Try.func24 #[.slice Ao67 t235.length co67, .slice Ao29 t201.length co29] ?_; (with_reducible refine (laws_eqStringS.calls kj54 _ _ t235 _ _ t201 t238 _ ?side1 ?side2 ?side3 ?side4 A59.out).mono ?_); (case side1 => repeat (first | exact (Kd.Q_reads' HO237.out).2.2 | (with_reducible refine Kd.C_alloc ?_ _) | (with_reducible refine Kd.C_drewN ?_ _) | (with_reducible refine Kd.C_drew ?_))); (case side2 => exact (Kd.Q_reads' HO237.out).2.1); (case side3 => exact cR HO_6); (case side4 => exact (Kd.R_reads' HO_6.out).2.1); rintro e w' ⟨rfl, ⟨nd, rfl⟩⟩; refine ⟨_, rfl, ?_⟩))
               (try simp only [Act.put, List.setIfInBounds_toArray, List.set_cons_zero, List.set_cons_succ])
               go_cut [] (fun wc => ∃ (kq : Nat), Aside0 (laws_FnExactHomeOf.j7 kq t227 t226 = some r) ∧ Aside0 (kq ≤ kj54) ∧ Aside0 (Kd.Q Kd.string 9 wc w.heap.size (fun k_ => some k_ ≠ ((.slice Ao23 t223.length co23) : Value).ownBlock) (.slice Ao28 t227.length co28) t227) ∧ Aside0 (Kd.Q Kd.string 9 wc w.heap.size (fun k_ => some k_ ≠ ((.slice Ao28 t227.length co28) : Value).ownBlock) (.slice Ao23 t223.length co23) t223) ∧ Aside0 (Kd.Q k65 65 wc w.heap.size (fun _ => True) (.slice Ao26 t224.length co26) t224) ∧ Aside0 (wc.heap[gb193]? = some (.cells #[(.slice A0_0 l0_0.length c0_0), (.slice A0_1 l0_1.length c0_1)] 25 (0, 0))) ∧ Aside0 (wc.heap[gb210]? = some (.cells #[(.slice Ao23 t223.length co23), (.slice Ao26 t224.length co26)] 30 (0, 0))) ∧ Aside0 (Below w.heap.size w wc))
               case first =>
                have H := HC60.out
                clear HC60
                by_cases c68 : t238 = true
                ·subst c68
                 rw [if_pos rfl] at H
                 have H' := aM H
                 clear H
                 go_wp2
                 go_meet
                 case rel => exact ⟨_, H', ⟨by have := HJ3.out; have := HJ13.out; have := HJ32.out; have := HJ40.out; have := HJ46.out; have := HJ50.out; have := HJ54.out; first | omega | exact Nat.le_refl _⟩, ⟨by (try simp only [hl211000_40]); (try simp only [hl211001_40]); (try simp only [hl8_50]); (with_reducible repeat (first | apply Kd.Q_alloc | apply Kd.Q_drewN | apply Kd.Q_drew)); exact Kd.Q_mono HO_8.out (fun _ hk => hk.1.1.2)⟩, ⟨by (try simp only [hl211000_40]); (try simp only [hl211001_40]); (try simp only [hl8_50]); (with_reducible repeat (first | apply Kd.Q_alloc | apply Kd.Q_drewN | apply Kd.Q_drew)); exact Kd.Q_mono HO_211000.out (fun _ hk => hk.1.1.2)⟩, ⟨by (try simp only [hl211000_40]); (try simp only [hl211001_40]); (try simp only [hl8_50]); (with_reducible repeat (first | apply Kd.Q_alloc | apply Kd.Q_drewN | apply Kd.Q_drew)); exact Kd.Q_mono HO_211001.out (fun _ hk => trivial)⟩, ⟨by (try simp only [hl211000_40]); (try simp only [hl211001_40]); (try simp only [hl8_50]); (with_reducible repeat (first | apply bN | apply bD | apply bA)); exact BK193.out⟩, ⟨by (try simp only [hl211000_40]); (try simp only [hl211001_40]); (try simp only [hl8_50]); (with_reducible repeat (first | apply bN | apply bD | apply bA)); exact BK210.out⟩, ⟨bB⟩⟩
                ·replace c68 := Bool.eq_false_iff.mpr c68
                 subst c68
                 rw [if_neg (show ¬ (false = true) by decide)] at H
                 obtain rfl := Option.some.inj H
                 go_wp2
                 go_ret
                 exact ⟨eW, bB⟩
               case rest =>
                clear HC60
                try clear c1
                try clear c2
                try clear p2
                try clear c3
                try clear c4
                try clear c5
                try clear c6
                try clear c8
                try clear c8b0
                try clear c8b1
                try clear c8b2
                try clear c15
                try clear c17
                try clear c19
                try clear c22
                try clear c23
                try clear c24
                try clear c25
                try clear c26
                try clear c27
                try clear c30
                try clear c39
                try clear c42
                try clear c45
                try clear c45b0
                try clear c45b1
                try clear c45b2
                try clear c48
                try clear c54
                try clear c54b0
                try clear c54b1
                try clear c54b2
                try clear c56
                try clear c56b0
                try clear c56b1
                try clear c56b2
                try clear c61
                try clear c68
                try clear hcz15_0
                try clear hcz15_1
                try clear hcz20_0
                try clear hcz20_1
                try clear hcz25_0
                try clear hcz25_1
                try clear hcz43_0
                try clear hcz43_1
                try clear hcz62_0
                try clear hcz62_1
                try clear hcz6_0
                try clear hcz6_1
                try clear hfz15_0
                try clear hfz15_1
                try clear hfz20_0
                try clear hfz20_1
                try clear hfz25_0
                try clear hfz25_1
                try clear hfz43_0
                try clear hfz43_1
                try clear hfz62_0
                try clear hfz62_1
                try clear hfz6_0
                try clear hfz6_1
                try clear p2
                obtain ⟨kq, HA, HJ59, HO_8, HO_211000, HO_211001, BK193, BK210, HB⟩ := hcut
                cases kq with
                | zero => exact absurd HA.out (by simp [laws_FnExactHomeOf.j7])
                | succ kj59 =>
                 have H := HA.out
                 clear HA
                 simp only [laws_FnExactHomeOf.j7] at H
                 replace H := Option.bind_eq_some_iff.mp H
                 obtain ⟨t239, A690, H⟩ := H
                 try dsimp only at H
                 have A69 := aM A690
                 clear A690
                 by_cases c70 : t239 < 0
                 ·rw [if_pos c70] at H
                  have c70b0 : decide (t239 < 0) = true := decide_eq_true c70
                  clear c70
                  obtain rfl := Option.some.inj H
                  go_wp2_with (first | ((with_reducible refine gate_callee (f := 27) rfl ?_); refine gL (some 68) Try.func27 #[.slice Ao28 t227.length co28, .int .i64 1] ?_; (with_reducible refine (laws_heldStringS.calls kj59 _ _ t227 1 t239 _ ?side1 ?side2 A69.out).mono ?_); (case side1 => repeat (first | exact (Kd.Q_reads' HO_8.out).2.2 | (with_reducible refine Kd.C_alloc ?_ _) | (with_reducible refine Kd.C_drewN ?_ _) | (with_reducible refine Kd.C_drew ?_))); (case side2 => exact (Kd.Q_reads' HO_8.out).2.1); rintro e w71 ⟨rfl, hb⟩; refine ⟨_, rfl, ?_⟩; have n_ := aI (aM (Kd.Q_below (by (with_reducible repeat (first | apply Kd.Q_alloc | apply Kd.Q_drewN | apply Kd.Q_drew)); exact HO_8.out) hb)) (aI (aM (Kd.Q_below (by (with_reducible repeat (first | apply Kd.Q_alloc | apply Kd.Q_drewN | apply Kd.Q_drew)); exact HO_211000.out) hb)) (aI (aM (Kd.Q_below (by (with_reducible repeat (first | apply Kd.Q_alloc | apply Kd.Q_drewN | apply Kd.Q_drew)); exact HO_211001.out) hb)) (aI (kB BK193 hb) (aI (kB BK210 hb) (sB HB hb))))); clear HO_8 HO_211000 HO_211001 BK193 BK210 HB; obtain ⟨HO_8, HO_211000, HO_211001, BK193, BK210, HB⟩ := n_; (try clear hb)))
                  go_ret
                  exact ⟨eW, bB⟩
                 ·rw [if_neg c70] at H
                  have c70b0 : decide (t239 < 0) = false := decide_eq_false c70
                  clear c70
                  by_cases c72 : t239 = t226
                  ·rw [if_pos c72] at H
                   have c72b0 : (t239 == t226) = true := beq_iff_eq.mpr c72
                   have c72b1 : (t239 != t226) = false := bne_eq_false_iff_eq.mpr c72
                   clear c72
                   obtain rfl := Option.some.inj H
                   go_wp2_with (first | ((with_reducible refine gate_callee (f := 27) rfl ?_); refine gL (some 68) Try.func27 #[.slice Ao28 t227.length co28, .int .i64 1] ?_; (with_reducible refine (laws_heldStringS.calls kj59 _ _ t227 1 t239 _ ?side1 ?side2 A69.out).mono ?_); (case side1 => repeat (first | exact (Kd.Q_reads' HO_8.out).2.2 | (with_reducible refine Kd.C_alloc ?_ _) | (with_reducible refine Kd.C_drewN ?_ _) | (with_reducible refine Kd.C_drew ?_))); (case side2 => exact (Kd.Q_reads' HO_8.out).2.1); rintro e w73 ⟨rfl, hb⟩; refine ⟨_, rfl, ?_⟩; have n_ := aI (aM (Kd.Q_below (by (with_reducible repeat (first | apply Kd.Q_alloc | apply Kd.Q_drewN | apply Kd.Q_drew)); exact HO_8.out) hb)) (aI (aM (Kd.Q_below (by (with_reducible repeat (first | apply Kd.Q_alloc | apply Kd.Q_drewN | apply Kd.Q_drew)); exact HO_211000.out) hb)) (aI (aM (Kd.Q_below (by (with_reducible repeat (first | apply Kd.Q_alloc | apply Kd.Q_drewN | apply Kd.Q_drew)); exact HO_211001.out) hb)) (aI (kB BK193 hb) (aI (kB BK210 hb) (sB HB hb))))); clear HO_8 HO_211000 HO_211001 BK193 BK210 HB; obtain ⟨HO_8, HO_211000, HO_211001, BK193, BK210, HB⟩ := n_; (try clear hb)))
                   go_ret
                   exact ⟨eW, bB⟩
                  ·rw [if_neg c72] at H
                   have c72b0 : (t239 == t226) = false := beq_eq_false_iff_ne.mpr c72
                   have c72b1 : (t239 != t226) = true := bne_iff_ne.mpr c72
                   obtain rfl := Option.some.inj H
                   go_wp2_with (first | ((with_reducible refine gate_callee (f := 27) rfl ?_); refine gL (some 68) Try.func27 #[.slice Ao28 t227.length co28, .int .i64 1] ?_; (with_reducible refine (laws_heldStringS.calls kj59 _ _ t227 1 t239 _ ?side1 ?side2 A69.out).mono ?_); (case side1 => repeat (first | exact (Kd.Q_reads' HO_8.out).2.2 | (with_reducible refine Kd.C_alloc ?_ _) | (with_reducible refine Kd.C_drewN ?_ _) | (with_reducible refine Kd.C_drew ?_))); (case side2 => exact (Kd.Q_reads' HO_8.out).2.1); rintro e w74 ⟨rfl, hb⟩; refine ⟨_, rfl, ?_⟩; have n_ := aI (aM (Kd.Q_below (by (with_reducible repeat (first | apply Kd.Q_alloc | apply Kd.Q_drewN | apply Kd.Q_drew)); exact HO_8.out) hb)) (aI (aM (Kd.Q_below (by (with_reducible repeat (first | apply Kd.Q_alloc | apply Kd.Q_drewN | apply Kd.Q_drew)); exact HO_211000.out) hb)) (aI (aM (Kd.Q_below (by (with_reducible repeat (first | apply Kd.Q_alloc | apply Kd.Q_drewN | apply Kd.Q_drew)); exact HO_211001.out) hb)) (aI (kB BK193 hb) (aI (kB BK210 hb) (sB HB hb))))); clear HO_8 HO_211000 HO_211001 BK193 BK210 HB; obtain ⟨HO_8, HO_211000, HO_211001, BK193, BK210, HB⟩ := n_; (try clear hb)))
                   go_ret
                   exact ⟨eW, bB⟩

/-- THE ONE PURE STATEMENT of laws_FnExactHomeOf. -/
def laws_FnExactHomeOf.Pure : Prop := ∀ (l0_0 : List ByteArray) (l0_1 : List (S111)) (a1 : Int), (l0_0.length ≤ maxLen ∧ ∀ x_ ∈ l0_0, x_.size ≤ maxLen) → (l0_1.length ≤ maxLen ∧ ∀ x_ ∈ l0_1, ((Lit.int .i64 x_.f0).wf = true ∧ x_.f1.size ≤ maxLen)) → (Lit.int .i64 a1).wf = true → ∃ k, laws_FnExactHomeOf.f k l0_0 l0_1 a1 = some true

end Go.Proofs.Ytgmpdkefegofhaa.PFnExactHomeOf
