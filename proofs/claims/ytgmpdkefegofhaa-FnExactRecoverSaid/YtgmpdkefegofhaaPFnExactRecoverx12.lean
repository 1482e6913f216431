-- Written by xprint.py, a program of this session over the kit's print. Not trusted: Lean checks it.
import Derived.Test.YtgmpdkefegofhaaPFnExactRecoverx0
import Derived.Test.YtgmpdkefegofhaaPFnExactRecoverx1
import Derived.Test.YtgmpdkefegofhaaPFnExactRecoverx2
import Derived.Test.YtgmpdkefegofhaaPFnExactRecoverx3
import Derived.Test.YtgmpdkefegofhaaPFnExactRecoverx7
import Derived.Test.YtgmpdkefegofhaaPFnExactRecoverx11
namespace Go.Proofs.Ytgmpdkefegofhaa.PFnExactRecover
open Go.RowKit Go.Proofs.YtgmpdkefegofhaaW.PrintWords Go.Proofs.YtgmpdkefegofhaaW.PrintLast Go.Proofs.YtgmpdkefegofhaaW.PrintMore
attribute [local go_sem] max2_int min2_int max_two min_two max_three min_three max_four min_four   -- for this text's walks alone
set_option linter.unusedVariables false
set_option linter.unusedSimpArgs false

/-! ### laws_FnExactRecover: function 10 -/
mutual
def laws_FnExactRecover.j0 : Nat → Int → List ByteArray → List (S111) → Option (Bool)
 | 0, _, _, _ => none
 | k + 1, x1, x421000, x421001 => (laws_toDisk.f k x421000 x421001).bind fun bt422 => ((spec_Recover.f k bt422.1 bt422.2 x1).bind fun bt428 => ((laws_toDisk.f k x421000 x421001).bind fun bt435 => ((impl_Recover.f k bt435.1 bt435.2 x1).bind fun bt442 => ((laws_eqDisk.f k bt442.1 bt442.2 bt428.1 bt428.2).bind fun t449 => (if t449 = true then (laws_FnExactRecover.j1 k x1 x421000 x421001 bt428.1 bt428.2 bt435.1 bt435.2 bt442.1 bt442.2) else (some false))))))
def laws_FnExactRecover.j1 : Nat → Int → List ByteArray → List (S111) → List ByteArray → List (S65) → List ByteArray → List (S65) → List ByteArray → List (S65) → Option (Bool)
 | 0, _, _, _, _, _, _, _, _, _ => none
 | k + 1, x1, x421000, x421001, x435000, x435001, x442000, x442001, x449000, x449001 => (laws_toDisk.f k x421000 x421001).bind fun bt450 => ((laws_eqDisk.f k x442000 x442001 bt450.1 bt450.2).bind fun t456 => (if t456 = true then (laws_FnExactRecover.j2 k x1 x421000 x421001 x435000 x435001 x442000 x442001 x449000 x449001) else (some false)))
def laws_FnExactRecover.j2 : Nat → Int → List ByteArray → List (S111) → List ByteArray → List (S65) → List ByteArray → List (S65) → List ByteArray → List (S65) → Option (Bool)
 | 0, _, _, _, _, _, _, _, _, _ => none
 | k + 1, x1, x421000, x421001, x435000, x435001, x442000, x442001, x449000, x449001 => (laws_markDisk.f k x442000 x442001 1).bind fun bt457 => (if bt457.1 < 0 then (laws_FnExactRecover.j3 k x1 true x421000 x421001 x435000 x435001 x449000 x449001) else ((laws_eqDisk.f k x449000 x449001 x435000 x435001).bind fun t460 => (laws_FnExactRecover.j3 k x1 (!t460) x421000 x421001 x435000 x435001 x449000 x449001)))
def laws_FnExactRecover.j3 : Nat → Int → Bool → List ByteArray → List (S111) → List ByteArray → List (S65) → List ByteArray → List (S65) → Option (Bool)
 | 0, _, _, _, _, _, _, _, _ => none
 | k + 1, x1, x46, x421000, x421001, x435000, x435001, x449000, x449001 => if x46 = true then (some false) else (laws_FnExactRecover.j4 k x1 x421000 x421001 x435000 x435001 x449000 x449001)
def laws_FnExactRecover.j4 : Nat → Int → List ByteArray → List (S111) → List ByteArray → List (S65) → List ByteArray → List (S65) → Option (Bool)
 | 0, _, _, _, _, _, _, _ => none
 | k + 1, x1, x421000, x421001, x435000, x435001, x449000, x449001 => (laws_markDisk.f k x449000 x449001 1).bind fun bt461 => ((laws_heldDisk.f k bt461.2.1 bt461.2.2 1).bind fun t464 => (if t464 < 0 then (some false) else (laws_FnExactRecover.j5 k x1 bt461.1 t464 x421000 x421001 x435000 x435001 bt461.2.1 bt461.2.2)))
def laws_FnExactRecover.j5 : Nat → Int → Int → Int → List ByteArray → List (S111) → List ByteArray → List (S65) → List ByteArray → List (S65) → Option (Bool)
 | 0, _, _, _, _, _, _, _, _, _ => none
 | k + 1, x1, x10, x11, x421000, x421001, x435000, x435001, x449000, x449001 => if x11 = x10 then (laws_FnExactRecover.j6 k x1 x10 x421000 x421001 x435000 x435001 x449000 x449001) else (some false)
def laws_FnExactRecover.j6 : Nat → Int → Int → List ByteArray → List (S111) → List ByteArray → List (S65) → List ByteArray → List (S65) → Option (Bool)
 | 0, _, _, _, _, _, _, _, _ => none
 | k + 1, x1, x10, x421000, x421001, x435000, x435001, x449000, x449001 => (laws_toDisk.f k x421000 x421001).bind fun bt465 => ((impl_Recover.f k bt465.1 bt465.2 x1).bind fun bt471 => ((laws_eqDisk.f k bt471.1 bt471.2 x435000 x435001).bind fun t478 => (if t478 = true then (laws_FnExactRecover.j7 k x10 x449000 x449001) else (some false))))
def laws_FnExactRecover.j7 : Nat → Int → List ByteArray → List (S65) → Option (Bool)
 | 0, _, _, _ => none
 | k + 1, x10, x449000, x449001 => (laws_heldDisk.f k x449000 x449001 1).bind fun t479 => (if t479 < 0 then (some false) else (if t479 = x10 then (some true) else (some false)))
end
def laws_FnExactRecover.f (k : Nat) (l0_0 : List ByteArray) (l0_1 : List (S111)) (a1 : Int) : Option (Bool) := (laws_szDisk.f k l0_0 l0_1 1048576).bind fun t421 => (if t421 < 0 then (some true) else (laws_FnExactRecover.j0 k a1 l0_0 l0_1))
theorem laws_FnExactRecover.mono_l : ∀ k, (∀ y0 y1 y2, LeO (laws_FnExactRecover.j0 k y0 y1 y2) (laws_FnExactRecover.j0 (k + 1) y0 y1 y2)) ∧ (∀ y0 y1 y2 y3 y4 y5 y6 y7 y8, LeO (laws_FnExactRecover.j1 k y0 y1 y2 y3 y4 y5 y6 y7 y8) (laws_FnExactRecover.j1 (k + 1) y0 y1 y2 y3 y4 y5 y6 y7 y8)) ∧ (∀ y0 y1 y2 y3 y4 y5 y6 y7 y8, LeO (laws_FnExactRecover.j2 k y0 y1 y2 y3 y4 y5 y6 y7 y8) (laws_FnExactRecover.j2 (k + 1) y0 y1 y2 y3 y4 y5 y6 y7 y8)) ∧ (∀ y0 y1 y2 y3 y4 y5 y6 y7, LeO (laws_FnExactRecover.j3 k y0 y1 y2 y3 y4 y5 y6 y7) (laws_FnExactRecover.j3 (k + 1) y0 y1 y2 y3 y4 y5 y6 y7)) ∧ (∀ y0 y1 y2 y3 y4 y5 y6, LeO (laws_FnExactRecover.j4 k y0 y1 y2 y3 y4 y5 y6) (laws_FnExactRecover.j4 (k + 1) y0 y1 y2 y3 y4 y5 y6)) ∧ (∀ y0 y1 y2 y3 y4 y5 y6 y7 y8, LeO (laws_FnExactRecover.j5 k y0 y1 y2 y3 y4 y5 y6 y7 y8) (laws_FnExactRecover.j5 (k + 1) y0 y1 y2 y3 y4 y5 y6 y7 y8)) ∧ (∀ y0 y1 y2 y3 y4 y5 y6 y7, LeO (laws_FnExactRecover.j6 k y0 y1 y2 y3 y4 y5 y6 y7) (laws_FnExactRecover.j6 (k + 1) y0 y1 y2 y3 y4 y5 y6 y7)) ∧ (∀ y0 y1 y2, LeO (laws_FnExactRecover.j7 k y0 y1 y2) (laws_FnExactRecover.j7 (k + 1) y0 y1 y2))
 | 0 => ⟨fun _ _ _ r h => by simp [laws_FnExactRecover.j0] at h, fun _ _ _ _ _ _ _ _ _ r h => by simp [laws_FnExactRecover.j1] at h, fun _ _ _ _ _ _ _ _ _ r h => by simp [laws_FnExactRecover.j2] at h, fun _ _ _ _ _ _ _ _ r h => by simp [laws_FnExactRecover.j3] at h, fun _ _ _ _ _ _ _ r h => by simp [laws_FnExactRecover.j4] at h, fun _ _ _ _ _ _ _ _ _ r h => by simp [laws_FnExactRecover.j5] at h, fun _ _ _ _ _ _ _ _ r h => by simp [laws_FnExactRecover.j6] at h, fun _ _ _ r h => by simp [laws_FnExactRecover.j7] at h⟩
 | k + 1 => by
  obtain ⟨ih0, ih1, ih2, ih3, ih4, ih5, ih6, ih7⟩ := laws_FnExactRecover.mono_l k
  refine ⟨?_, ?_, ?_, ?_, ?_, ?_, ?_, ?_⟩
  ·intro y0 y1 y2
   unfold laws_FnExactRecover.j0
   have m0_ := @impl_Recover.mono
   have m1_ := @laws_eqDisk.mono
   have m2_ := @laws_heldDisk.mono
   have m3_ := @laws_markDisk.mono
   have m4_ := @laws_szDisk.mono
   have m5_ := @laws_toDisk.mono
   have m6_ := @spec_Recover.mono
   exact mM
  ·intro y0 y1 y2 y3 y4 y5 y6 y7 y8
   unfold laws_FnExactRecover.j1
   have m0_ := @impl_Recover.mono
   have m1_ := @laws_eqDisk.mono
   have m2_ := @laws_heldDisk.mono
   have m3_ := @laws_markDisk.mono
   have m4_ := @laws_szDisk.mono
   have m5_ := @laws_toDisk.mono
   have m6_ := @spec_Recover.mono
   exact mM
  ·intro y0 y1 y2 y3 y4 y5 y6 y7 y8
   unfold laws_FnExactRecover.j2
   have m0_ := @impl_Recover.mono
   have m1_ := @laws_eqDisk.mono
   have m2_ := @laws_heldDisk.mono
   have m3_ := @laws_markDisk.mono
   have m4_ := @laws_szDisk.mono
   have m5_ := @laws_toDisk.mono
   have m6_ := @spec_Recover.mono
   exact mM
  ·intro y0 y1 y2 y3 y4 y5 y6 y7
   unfold laws_FnExactRecover.j3
   have m0_ := @impl_Recover.mono
   have m1_ := @laws_eqDisk.mono
   have m2_ := @laws_heldDisk.mono
   have m3_ := @laws_markDisk.mono
   have m4_ := @laws_szDisk.mono
   have m5_ := @laws_toDisk.mono
   have m6_ := @spec_Recover.mono
   exact mM
  ·intro y0 y1 y2 y3 y4 y5 y6
   unfold laws_FnExactRecover.j4
   have m0_ := @impl_Recover.mono
   have m1_ := @laws_eqDisk.mono
   have m2_ := @laws_heldDisk.mono
   have m3_ := @laws_markDisk.mono
   have m4_ := @laws_szDisk.mono
   have m5_ := @laws_toDisk.mono
   have m6_ := @spec_Recover.mono
   exact mM
  ·intro y0 y1 y2 y3 y4 y5 y6 y7 y8
   unfold laws_FnExactRecover.j5
   have m0_ := @impl_Recover.mono
   have m1_ := @laws_eqDisk.mono
   have m2_ := @laws_heldDisk.mono
   have m3_ := @laws_markDisk.mono
   have m4_ := @laws_szDisk.mono
   have m5_ := @laws_toDisk.mono
   have m6_ := @spec_Recover.mono
   exact mM
  ·intro y0 y1 y2 y3 y4 y5 y6 y7
   unfold laws_FnExactRecover.j6
   have m0_ := @impl_Recover.mono
   have m1_ := @laws_eqDisk.mono
   have m2_ := @laws_heldDisk.mono
   have m3_ := @laws_markDisk.mono
   have m4_ := @laws_szDisk.mono
   have m5_ := @laws_toDisk.mono
   have m6_ := @spec_Recover.mono
   exact mM
  ·intro y0 y1 y2
   unfold laws_FnExactRecover.j7
   have m0_ := @impl_Recover.mono
   have m1_ := @laws_eqDisk.mono
   have m2_ := @laws_heldDisk.mono
   have m3_ := @laws_markDisk.mono
   have m4_ := @laws_szDisk.mono
   have m5_ := @laws_toDisk.mono
   have m6_ := @spec_Recover.mono
   exact mM
theorem laws_FnExactRecover.mono : ∀ a0 a1 a2 k, LeO (laws_FnExactRecover.f k a0 a1 a2) (laws_FnExactRecover.f (k + 1) a0 a1 a2) := by
 intro a0 a1 a2 k
 obtain ⟨ih0, ih1, ih2, ih3, ih4, ih5, ih6, ih7⟩ := laws_FnExactRecover.mono_l k
 unfold laws_FnExactRecover.f
 have m0_ := @impl_Recover.mono
 have m1_ := @laws_eqDisk.mono
 have m2_ := @laws_heldDisk.mono
 have m3_ := @laws_markDisk.mono
 have m4_ := @laws_szDisk.mono
 have m5_ := @laws_toDisk.mono
 have m6_ := @spec_Recover.mono
 exact mM
set_option maxHeartbeats 8000000 in
set_option maxRecDepth 100000 in
theorem laws_FnExactRecover.calls (k : Nat) (A0_0 : Option Addr) (c0_0 : Nat) (l0_0 : List ByteArray) (A0_1 : Option Addr) (c0_1 : Nat) (l0_1 : List (S111)) (a1 : Int) (r : Bool) (w : World) (hr0_0 : Kd.C Kd.string w A0_0 l0_0.length l0_0) (hc0_0 : l0_0.length ≤ c0_0) (hr0_1 : Kd.C k111 w A0_1 l0_1.length l0_1) (hc0_1 : l0_1.length ≤ c0_1) (h : laws_FnExactRecover.f k l0_0 l0_1 a1 = some r) :
  Calls Try.prog 10 #[.agg #[.slice A0_0 l0_0.length c0_0, .slice A0_1 l0_1.length c0_1], .int .i64 a1] w fun e w' => e = .returned (.bool r) ∧ Below w.heap.size w w' := by
 have hu25 := Try.underlying25
 have hu30 := Try.underlying30
 have HR0_0 := Aside0.mk hr0_0
 have HC0_0 := Aside0.mk hc0_0
 clear hr0_0 hc0_0
 have HR0_1 := Aside0.mk hr0_1
 have HC0_1 := Aside0.mk hc0_1
 clear hr0_1 hc0_1
 have HB := Aside0.mk (Below.refl w.heap.size w)
 unfold laws_FnExactRecover.f at h
 have H := h
 clear h
 replace H := Option.bind_eq_some_iff.mp H
 obtain ⟨t421, A30, H⟩ := H
 try dsimp only at H
 have A3 := Aside0.mk A30
 clear A30
 have HC4 := Aside0.mk H
 clear H
 go_enter Try.func10, Try.ntmps10
 go_upto_if 17 with (first | ((with_reducible refine gate_dst (N := 2) rfl ?_); refine bE 2 #[.slice A0_0 l0_0.length c0_0, .slice A0_1 l0_1.length c0_1] 25 ?_; intro gb420 hg w5 hbox hb; have n_ := And.intro (sB HB hb) (And.intro (Aside0.mk hbox) (And.intro (gE HB hg) (gE HB hg))); clear HB; obtain ⟨HB, BK420, GW420, GE420⟩ := n_; (try clear hb hbox hg); have hcz6_0 := cZ0 BK420; have hcz6_1 := cZ1 BK420; have hfz6_0 := blk_frozen BK420.out 0; have hfz6_1 := blk_frozen BK420.out 1) | ((with_reducible refine gate_callee (f := 15) rfl ?_); refine gL (some 15) Try.func15 #[.agg #[.slice A0_0 l0_0.length c0_0, .slice A0_1 l0_1.length c0_1], .int .i64 1048576] ?_; (with_reducible refine (laws_szDisk.calls k _ _ l0_0 _ _ l0_1 1048576 t421 _ ?side1 ?side2 ?side3 ?side4 A3.out).mono ?_); (case side1 => exact cS HR0_0 HB); (case side2 => exact HC0_0.out); (case side3 => exact cS HR0_1 HB); (case side4 => exact HC0_1.out); rintro e w7 ⟨rfl, hb⟩; refine ⟨_, rfl, ?_⟩; have n_ := And.intro (kB BK420 hb) (sB HB hb); clear BK420 HB; obtain ⟨BK420, HB⟩ := n_; (try clear hb)))
 (try simp only [Act.put, List.setIfInBounds_toArray, List.set_cons_zero, List.set_cons_succ])
 go_cut [] (fun wc => ∃ (kq : Nat), Aside0 (laws_FnExactRecover.j0 kq a1 l0_0 l0_1 = some r) ∧ Aside0 (kq ≤ k) ∧ Aside0 (wc.heap[gb420]? = some (.cells #[(.slice A0_0 l0_0.length c0_0), (.slice A0_1 l0_1.length c0_1)] 25 (0, 0))) ∧ Aside0 (Below w.heap.size w wc))
 case first =>
  have H := HC4.out
  clear HC4
  by_cases c8 : t421 < 0
  ·rw [if_pos c8] at H
   have c8b0 : decide (t421 < 0) = true := decide_eq_true c8
   clear c8
   (first | rw [c8b0] | (simp only [i64_w, i32_w]; rw [c8b0]) | rw [c8b1] | rw [c8b2] | skip)
   obtain rfl := Option.some.inj H
   go_wp2
   go_ret
   exact ⟨eW, bB⟩
  rw [if_neg c8] at H
  have c8b0 : decide (t421 < 0) = false := decide_eq_false c8
  clear c8
  (first | rw [c8b0] | (simp only [i64_w, i32_w]; rw [c8b0]) | rw [c8b1] | rw [c8b2] | skip)
  have H' := Aside0.mk H
  clear H
  go_wp2
  go_meet
  case rel => exact ⟨_, H', ⟨by first | omega | exact Nat.le_refl _⟩, ⟨kP BK420⟩, ⟨bB⟩⟩
 case rest =>
  clear HC4
  try clear c1
  try clear p2
  try clear c8
  try clear c8b0
  try clear c8b1
  try clear c8b2
  try clear hcz6_0
  try clear hcz6_1
  try clear hfz6_0
  try clear hfz6_1
  obtain ⟨kq, HA, HJ3, BK420, HB⟩ := hcut
  cases kq with
  | zero => exact absurd HA.out (by simp [laws_FnExactRecover.j0])
  | succ kj3 =>
   have H := HA.out
   clear HA
   simp only [laws_FnExactRecover.j0] at H
   replace H := Option.bind_eq_some_iff.mp H
   obtain ⟨⟨t422, t425⟩, A90, H⟩ := H
   try dsimp only at H
   have A9 := Aside0.mk A90
   clear A90
   replace H := Option.bind_eq_some_iff.mp H
   obtain ⟨⟨t428, t431⟩, A100, H⟩ := H
   try dsimp only at H
   have A10 := Aside0.mk A100
   clear A100
   replace H := Option.bind_eq_some_iff.mp H
   obtain ⟨⟨t435, t438⟩, A110, H⟩ := H
   try dsimp only at H
   have A11 := Aside0.mk A110
   clear A110
   replace H := Option.bind_eq_some_iff.mp H
   obtain ⟨⟨t442, t445⟩, A120, H⟩ := H
   try dsimp only at H
   have A12 := Aside0.mk A120
   clear A120
   replace H := Option.bind_eq_some_iff.mp H
   obtain ⟨t449, A130, H⟩ := H
   try dsimp only at H
   have A13 := Aside0.mk A130
   clear A130
   have HC14 := Aside0.mk H
   clear H
   have hcz15_0 := cZ0 BK420
   have hcz15_1 := cZ1 BK420
   have hfz15_0 := blk_frozen BK420.out 0
   have hfz15_1 := blk_frozen BK420.out 1
   go_upto_if 30 with (first | ((with_reducible refine gate_callee (f := 17) rfl ?_); refine gL (some 19) Try.func17 #[.agg #[.slice A0_0 l0_0.length c0_0, .slice A0_1 l0_1.length c0_1]] ?_; (with_reducible refine (laws_toDisk.calls kj3 _ _ l0_0 _ _ l0_1 t422 t425 _ ?side1 ?side2 ?side3 ?side4 A9.out).mono ?_); (case side1 => exact cS HR0_0 HB); (case side2 => exact HC0_0.out); (case side3 => exact cS HR0_1 HB); (case side4 => exact HC0_1.out); rintro e w16 ⟨v423, v426, rfl, ho0, ho1, hb⟩; refine ⟨_, rfl, ?_⟩; have n_ := And.intro (lR HB ho0) (And.intro (lR HB ho1) (And.intro (kB BK420 hb) (sB HB hb))); clear BK420 HB; obtain ⟨HO424, HO427, BK420, HB⟩ := n_; (try clear hb ho0 ho1); obtain ⟨Ao17, co17, eo17⟩ := Kd.R_slice HO424.out; subst eo17; obtain ⟨Ao18, co18, eo18⟩ := Kd.R_slice HO427.out; subst eo18) | ((with_reducible refine gate_callee (f := 44) rfl ?_); refine gL (some 21) Try.func44 #[.agg #[.slice Ao17 t422.length co17, .slice Ao18 t425.length co18], .int .i64 a1] ?_; (with_reducible refine (spec_Recover.calls kj3 _ _ t422 _ _ t425 a1 t428 t431 _ ?side1 ?side2 ?side3 ?side4 A10.out).mono ?_); (case side1 => exact cR HO424); (case side2 => exact (Kd.R_reads' HO424.out).2.1); (case side3 => exact cR HO427); (case side4 => exact (Kd.R_reads' HO427.out).2.1); rintro e w19 ⟨v429, v432, rfl, ho0, ho1, hb⟩; refine ⟨_, rfl, ?_⟩; have n_ := And.intro (eR HO424 ho0 hb) (And.intro (eR HO427 ho1 hb) (And.intro (Aside0.mk (Kd.R_lower (Kd.R_new' ho0 (rL HO424)) (zB HB))) (And.intro (Aside0.mk (Kd.R_lower (Kd.R_new' ho1 (rL HO427)) (zB HB))) (And.intro (kB BK420 hb) (sB HB hb))))); clear HO424 HO427 BK420 HB; obtain ⟨HO424, HO427, HO430, HO433, BK420, HB⟩ := n_; (try clear hb ho0 ho1)) | ((with_reducible refine gate_dst (N := 6) rfl ?_); refine bE 6 #[.slice none 0 0, .slice none 0 0] 30 ?_; intro gb434 hg w20 hbox hb; have n_ := And.intro (rB HO424 hb) (And.intro (rB HO427 hb) (And.intro (rB HO430 hb) (And.intro (rB HO433 hb) (And.intro (kB BK420 hb) (And.intro (sB HB hb) (And.intro (Aside0.mk hbox) (And.intro (gE HB hg) (And.intro (gE HB hg) (And.intro (nL BK420 hg) (nG BK420 hg)))))))))); clear HO424 HO427 HO430 HO433 BK420 HB; obtain ⟨HO424, HO427, HO430, HO433, BK420, HB, BK434, GW434, GE434, NB420_434, NB434_420⟩ := n_; (try clear hb hbox hg); obtain ⟨Ao21, co21, eo21⟩ := Kd.R_slice HO430.out; subst eo21; have hnb22 := NB434_420.out; have hnc22 := NB420_434.out; have hcz23_0 := cZ0 BK434; have hcz23_1 := cZ1 BK434; have hfz23_0 := blk_frozen BK434.out 0; have hfz23_1 := blk_frozen BK434.out 1; obtain ⟨Ao24, co24, eo24⟩ := Kd.R_slice HO433.out; subst eo24; have hcz25_0 := cZ0 BK420; have hcz25_1 := cZ1 BK420; have hfz25_0 := blk_frozen BK420.out 0; have hfz25_1 := blk_frozen BK420.out 1) | ((with_reducible refine gate_callee (f := 17) rfl ?_); refine gL (some 23) Try.func17 #[.agg #[.slice A0_0 l0_0.length c0_0, .slice A0_1 l0_1.length c0_1]] ?_; (with_reducible refine (laws_toDisk.calls kj3 _ _ l0_0 _ _ l0_1 t435 t438 _ ?side1 ?side2 ?side3 ?side4 A11.out).mono ?_); (case side1 => exact cS HR0_0 HB); (case side2 => exact HC0_0.out); (case side3 => exact cS HR0_1 HB); (case side4 => exact HC0_1.out); rintro e w26 ⟨v436, v439, rfl, ho0, ho1, hb⟩; refine ⟨_, rfl, ?_⟩; have n_ := And.intro (Aside0.mk (Kd.R_elder' (rP (Kd.R_mono (Kd.R_far (p := ⟨gb434, 1, none⟩) (Kd.R_far (p := ⟨gb434, 0, none⟩) (Kd.R_types HO424.out BK434.out (by decide)) (fun _ hk => hk.2) (.slice Ao21 t428.length co21)) (fun _ hk => hk.2) (.slice Ao24 t431.length co24)) (fun _ h_ => h_.1))) (Kd.R_base ho0) hb)) (And.intro (Aside0.mk (Kd.R_elder' (rP (Kd.R_mono (Kd.R_far (p := ⟨gb434, 1, none⟩) (Kd.R_far (p := ⟨gb434, 0, none⟩) (Kd.R_types HO427.out BK434.out (by decide)) (fun _ hk => hk.2) (.slice Ao21 t428.length co21)) (fun _ hk => hk.2) (.slice Ao24 t431.length co24)) (fun _ h_ => h_.1))) (Kd.R_base ho1) hb)) (And.intro (Aside0.mk (Kd.R_elder' (rP (Kd.R_mono (Kd.R_far (p := ⟨gb434, 1, none⟩) (Kd.R_far (p := ⟨gb434, 0, none⟩) (Kd.R_types HO430.out BK434.out (by decide)) (fun _ hk => hk.2) (.slice Ao21 t428.length co21)) (fun _ hk => hk.2) (.slice Ao24 t431.length co24)) (fun _ h_ => h_.1))) (Kd.R_base ho0) hb)) (And.intro (Aside0.mk (Kd.R_elder' (rP (Kd.R_mono (Kd.R_far (p := ⟨gb434, 1, none⟩) (Kd.R_far (p := ⟨gb434, 0, none⟩) (Kd.R_types HO433.out BK434.out (by decide)) (fun _ hk => hk.2) (.slice Ao21 t428.length co21)) (fun _ hk => hk.2) (.slice Ao24 t431.length co24)) (fun _ h_ => h_.1))) (Kd.R_base ho1) hb)) (And.intro (Aside0.mk (Kd.R_lower (Kd.R_new' (Kd.R_new' ho0 (Kd.R_lt (rP (Kd.R_mono (Kd.R_far (p := ⟨gb434, 1, none⟩) (Kd.R_far (p := ⟨gb434, 0, none⟩) (Kd.R_types HO424.out BK434.out (by decide)) (fun _ hk => hk.2) (.slice Ao21 t428.length co21)) (fun _ hk => hk.2) (.slice Ao24 t431.length co24)) (fun _ h_ => h_.1))))) (Kd.R_lt (rP (Kd.R_mono (Kd.R_far (p := ⟨gb434, 1, none⟩) (Kd.R_far (p := ⟨gb434, 0, none⟩) (Kd.R_types HO430.out BK434.out (by decide)) (fun _ hk => hk.2) (.slice Ao21 t428.length co21)) (fun _ hk => hk.2) (.slice Ao24 t431.length co24)) (fun _ h_ => h_.1))))) (zB HB))) (And.intro (Aside0.mk (Kd.R_lower (Kd.R_new' (Kd.R_new' ho1 (Kd.R_lt (rP (Kd.R_mono (Kd.R_far (p := ⟨gb434, 1, none⟩) (Kd.R_far (p := ⟨gb434, 0, none⟩) (Kd.R_types HO427.out BK434.out (by decide)) (fun _ hk => hk.2) (.slice Ao21 t428.length co21)) (fun _ hk => hk.2) (.slice Ao24 t431.length co24)) (fun _ h_ => h_.1))))) (Kd.R_lt (rP (Kd.R_mono (Kd.R_far (p := ⟨gb434, 1, none⟩) (Kd.R_far (p := ⟨gb434, 0, none⟩) (Kd.R_types HO433.out BK434.out (by decide)) (fun _ hk => hk.2) (.slice Ao21 t428.length co21)) (fun _ hk => hk.2) (.slice Ao24 t431.length co24)) (fun _ h_ => h_.1))))) (zB HB))) (And.intro (kB BK420 hb) (And.intro (Aside0.mk (blk_below (g := gb434) (o := .cells #[.slice Ao21 t428.length co21, .slice Ao24 t431.length co24] 30 (0, 0)) (by (with_reducible repeat (first | refine blk_drewN ?_ _ | refine blk_drew ?_ | refine blk_alloc ?_ _)); refine blk_put (cs := #[.slice Ao21 t428.length co21, .slice none 0 0]) ?_ 1 _ rfl; (with_reducible repeat (first | refine blk_drewN ?_ _ | refine blk_drew ?_ | refine blk_alloc ?_ _)); refine blk_put (cs := #[.slice none 0 0, .slice none 0 0]) ?_ 0 _ rfl; (with_reducible repeat (first | refine blk_drewN ?_ _ | refine blk_drew ?_ | refine blk_alloc ?_ _)); exact BK434.out) hb)) (sB HB hb)))))))); clear HO424 HO427 HO430 HO433 BK420 BK434 HB; obtain ⟨HO424, HO427, HO430, HO433, HO437, HO440, BK420, BK434, HB⟩ := n_; (try clear hb ho0 ho1)) | ((with_reducible refine gate_dst (N := 7) rfl ?_); refine bE 7 #[.slice none 0 0, .slice none 0 0] 30 ?_; intro gb441 hg w27 hbox hb; have n_ := And.intro (rB HO424 hb) (And.intro (rB HO427 hb) (And.intro (rB HO430 hb) (And.intro (rB HO433 hb) (And.intro (rB HO437 hb) (And.intro (rB HO440 hb) (And.intro (kB BK420 hb) (And.intro (kB BK434 hb) (And.intro (sB HB hb) (And.intro (Aside0.mk hbox) (And.intro (gE HB hg) (And.intro (gE HB hg) (And.intro (nL BK420 hg) (And.intro (nG BK420 hg) (And.intro (nL BK434 hg) (nG BK434 hg))))))))))))))); clear HO424 HO427 HO430 HO433 HO437 HO440 BK420 BK434 HB; obtain ⟨HO424, HO427, HO430, HO433, HO437, HO440, BK420, BK434, HB, BK441, GW441, GE441, NB420_441, NB441_420, NB434_441, NB441_434⟩ := n_; (try clear hb hbox hg); obtain ⟨Ao28, co28, eo28⟩ := Kd.R_slice HO437.out; subst eo28; have hnb29 := NB441_420.out; have hnc29 := NB420_441.out; have hnb30 := NB441_434.out; have hnc30 := NB434_441.out; have hcz31_0 := cZ0 BK441; have hcz31_1 := cZ1 BK441; have hfz31_0 := blk_frozen BK441.out 0; have hfz31_1 := blk_frozen BK441.out 1; obtain ⟨Ao32, co32, eo32⟩ := Kd.R_slice HO440.out; subst eo32) | ((with_reducible refine gate_callee (f := 45) rfl ?_); refine gL (some 26) Try.func45 #[.agg #[.slice Ao28 t435.length co28, .slice Ao32 t438.length co32], .int .i64 a1] ?_; (with_reducible refine (impl_Recover.calls kj3 _ _ t435 _ _ t438 a1 t442 t445 _ ?side1 ?side2 ?side3 ?side4 A12.out).mono ?_); (case side1 => refine (Kd.R_reads' (e := 9) (base := w.heap.size) (ok := fun k_ => ((True ∧ some k_ ≠ (.slice Ao17 t422.length co17 : Value).ownBlock) ∧ some k_ ≠ (.slice Ao21 t428.length co21 : Value).ownBlock)) (n := t435.length) (c := co28) ?_).2.2; exact (rP (Kd.R_mono (Kd.R_far (p := ⟨gb441, 1, none⟩) (Kd.R_far (p := ⟨gb441, 0, none⟩) (Kd.R_types HO437.out BK441.out (by decide)) (fun _ hk => hk.2) (.slice Ao28 t435.length co28)) (fun _ hk => hk.2) (.slice Ao32 t438.length co32)) (fun _ h_ => h_.1)))); (case side2 => exact (Kd.R_reads' HO437.out).2.1); (case side3 => refine (Kd.R_reads' (e := 65) (base := w.heap.size) (ok := fun k_ => ((True ∧ some k_ ≠ (.slice Ao18 t425.length co18 : Value).ownBlock) ∧ some k_ ≠ (.slice Ao24 t431.length co24 : Value).ownBlock)) (n := t438.length) (c := co32) ?_).2.2; exact (rP (Kd.R_mono (Kd.R_far (p := ⟨gb441, 1, none⟩) (Kd.R_far (p := ⟨gb441, 0, none⟩) (Kd.R_types HO440.out BK441.out (by decide)) (fun _ hk => hk.2) (.slice Ao28 t435.length co28)) (fun _ hk => hk.2) (.slice Ao32 t438.length co32)) (fun _ h_ => h_.1)))); (case side4 => exact (Kd.R_reads' HO440.out).2.1); rintro e w33 ⟨v443, v446, rfl, ho0, ho1, hb⟩; refine ⟨_, rfl, ?_⟩; have n_ := And.intro (Aside0.mk (Kd.R_elder' (rP (Kd.R_mono (Kd.R_far (p := ⟨gb441, 1, none⟩) (Kd.R_far (p := ⟨gb441, 0, none⟩) (Kd.R_types HO424.out BK441.out (by decide)) (fun _ hk => hk.2) (.slice Ao28 t435.length co28)) (fun _ hk => hk.2) (.slice Ao32 t438.length co32)) (fun _ h_ => h_.1))) (Kd.R_base ho0) hb)) (And.intro (Aside0.mk (Kd.R_elder' (rP (Kd.R_mono (Kd.R_far (p := ⟨gb441, 1, none⟩) (Kd.R_far (p := ⟨gb441, 0, none⟩) (Kd.R_types HO427.out BK441.out (by decide)) (fun _ hk => hk.2) (.slice Ao28 t435.length co28)) (fun _ hk => hk.2) (.slice Ao32 t438.length co32)) (fun _ h_ => h_.1))) (Kd.R_base ho1) hb)) (And.intro (Aside0.mk (Kd.R_elder' (rP (Kd.R_mono (Kd.R_far (p := ⟨gb441, 1, none⟩) (Kd.R_far (p := ⟨gb441, 0, none⟩) (Kd.R_types HO430.out BK441.out (by decide)) (fun _ hk => hk.2) (.slice Ao28 t435.length co28)) (fun _ hk => hk.2) (.slice Ao32 t438.length co32)) (fun _ h_ => h_.1))) (Kd.R_base ho0) hb)) (And.intro (Aside0.mk (Kd.R_elder' (rP (Kd.R_mono (Kd.R_far (p := ⟨gb441, 1, none⟩) (Kd.R_far (p := ⟨gb441, 0, none⟩) (Kd.R_types HO433.out BK441.out (by decide)) (fun _ hk => hk.2) (.slice Ao28 t435.length co28)) (fun _ hk => hk.2) (.slice Ao32 t438.length co32)) (fun _ h_ => h_.1))) (Kd.R_base ho1) hb)) (And.intro (Aside0.mk (Kd.R_elder' (rP (Kd.R_mono (Kd.R_far (p := ⟨gb441, 1, none⟩) (Kd.R_far (p := ⟨gb441, 0, none⟩) (Kd.R_types HO437.out BK441.out (by decide)) (fun _ hk => hk.2) (.slice Ao28 t435.length co28)) (fun _ hk => hk.2) (.slice Ao32 t438.length co32)) (fun _ h_ => h_.1))) (Kd.R_base ho0) hb)) (And.intro (Aside0.mk (Kd.R_elder' (rP (Kd.R_mono (Kd.R_far (p := ⟨gb441, 1, none⟩) (Kd.R_far (p := ⟨gb441, 0, none⟩) (Kd.R_types HO440.out BK441.out (by decide)) (fun _ hk => hk.2) (.slice Ao28 t435.length co28)) (fun _ hk => hk.2) (.slice Ao32 t438.length co32)) (fun _ h_ => h_.1))) (Kd.R_base ho1) hb)) (And.intro (Aside0.mk (Kd.R_lower (Kd.R_new' (Kd.R_new' (Kd.R_new' ho0 (Kd.R_lt (rP (Kd.R_mono (Kd.R_far (p := ⟨gb441, 1, none⟩) (Kd.R_far (p := ⟨gb441, 0, none⟩) (Kd.R_types HO424.out BK441.out (by decide)) (fun _ hk => hk.2) (.slice Ao28 t435.length co28)) (fun _ hk => hk.2) (.slice Ao32 t438.length co32)) (fun _ h_ => h_.1))))) (Kd.R_lt (rP (Kd.R_mono (Kd.R_far (p := ⟨gb441, 1, none⟩) (Kd.R_far (p := ⟨gb441, 0, none⟩) (Kd.R_types HO430.out BK441.out (by decide)) (fun _ hk => hk.2) (.slice Ao28 t435.length co28)) (fun _ hk => hk.2) (.slice Ao32 t438.length co32)) (fun _ h_ => h_.1))))) (Kd.R_lt (rP (Kd.R_mono (Kd.R_far (p := ⟨gb441, 1, none⟩) (Kd.R_far (p := ⟨gb441, 0, none⟩) (Kd.R_types HO437.out BK441.out (by decide)) (fun _ hk => hk.2) (.slice Ao28 t435.length co28)) (fun _ hk => hk.2) (.slice Ao32 t438.length co32)) (fun _ h_ => h_.1))))) (zB HB))) (And.intro (Aside0.mk (Kd.R_lower (Kd.R_new' (Kd.R_new' (Kd.R_new' ho1 (Kd.R_lt (rP (Kd.R_mono (Kd.R_far (p := ⟨gb441, 1, none⟩) (Kd.R_far (p := ⟨gb441, 0, none⟩) (Kd.R_types HO427.out BK441.out (by decide)) (fun _ hk => hk.2) (.slice Ao28 t435.length co28)) (fun _ hk => hk.2) (.slice Ao32 t438.length co32)) (fun _ h_ => h_.1))))) (Kd.R_lt (rP (Kd.R_mono (Kd.R_far (p := ⟨gb441, 1, none⟩) (Kd.R_far (p := ⟨gb441, 0, none⟩) (Kd.R_types HO433.out BK441.out (by decide)) (fun _ hk => hk.2) (.slice Ao28 t435.length co28)) (fun _ hk => hk.2) (.slice Ao32 t438.length co32)) (fun _ h_ => h_.1))))) (Kd.R_lt (rP (Kd.R_mono (Kd.R_far (p := ⟨gb441, 1, none⟩) (Kd.R_far (p := ⟨gb441, 0, none⟩) (Kd.R_types HO440.out BK441.out (by decide)) (fun _ hk => hk.2) (.slice Ao28 t435.length co28)) (fun _ hk => hk.2) (.slice Ao32 t438.length co32)) (fun _ h_ => h_.1))))) (zB HB))) (And.intro (kB BK420 hb) (And.intro (kB BK434 hb) (And.intro (Aside0.mk (blk_below (g := gb441) (o := .cells #[.slice Ao28 t435.length co28, .slice Ao32 t438.length co32] 30 (0, 0)) (by (with_reducible repeat (first | refine blk_drewN ?_ _ | refine blk_drew ?_ | refine blk_alloc ?_ _)); refine blk_put (cs := #[.slice Ao28 t435.length co28, .slice none 0 0]) ?_ 1 _ rfl; (with_reducible repeat (first | refine blk_drewN ?_ _ | refine blk_drew ?_ | refine blk_alloc ?_ _)); refine blk_put (cs := #[.slice none 0 0, .slice none 0 0]) ?_ 0 _ rfl; (with_reducible repeat (first | refine blk_drewN ?_ _ | refine blk_drew ?_ | refine blk_alloc ?_ _)); exact BK441.out) hb)) (sB HB hb))))))))))); clear HO424 HO427 HO430 HO433 HO437 HO440 BK420 BK434 BK441 HB; obtain ⟨HO424, HO427, HO430, HO433, HO437, HO440, HO444, HO447, BK420, BK434, BK441, HB⟩ := n_; (try clear hb ho0 ho1)) | ((with_reducible refine gate_dst (N := 8) rfl ?_); refine bE 8 #[.slice none 0 0, .slice none 0 0] 30 ?_; intro gb448 hg w34 hbox hb; have n_ := And.intro (rB HO424 hb) (And.intro (rB HO427 hb) (And.intro (rB HO430 hb) (And.intro (rB HO433 hb) (And.intro (rB HO437 hb) (And.intro (rB HO440 hb) (And.intro (rB HO444 hb) (And.intro (rB HO447 hb) (And.intro (kB BK420 hb) (And.intro (kB BK434 hb) (And.intro (kB BK441 hb) (And.intro (sB HB hb) (And.intro (Aside0.mk hbox) (And.intro (gE HB hg) (And.intro (gE HB hg) (And.intro (nL BK420 hg) (And.intro (nG BK420 hg) (And.intro (nL BK434 hg) (And.intro (nG BK434 hg) (And.intro (nL BK441 hg) (nG BK441 hg)))))))))))))))))))); clear HO424 HO427 HO430 HO433 HO437 HO440 HO444 HO447 BK420 BK434 BK441 HB; obtain ⟨HO424, HO427, HO430, HO433, HO437, HO440, HO444, HO447, BK420, BK434, BK441, HB, BK448, GW448, GE448, NB420_448, NB448_420, NB434_448, NB448_434, NB441_448, NB448_441⟩ := n_; (try clear hb hbox hg); obtain ⟨Ao35, co35, eo35⟩ := Kd.R_slice HO444.out; subst eo35; have hnb36 := NB448_420.out; have hnc36 := NB420_448.out; have hnb37 := NB448_434.out; have hnc37 := NB434_448.out; have hnb38 := NB448_441.out; have hnc38 := NB441_448.out; have hcz39_0 := cZ0 BK448; have hcz39_1 := cZ1 BK448; have hfz39_0 := blk_frozen BK448.out 0; have hfz39_1 := blk_frozen BK448.out 1; obtain ⟨Ao40, co40, eo40⟩ := Kd.R_slice HO447.out; subst eo40; have hcz41_0 := cZ0 BK434; have hcz41_1 := cZ1 BK434; have hfz41_0 := blk_frozen BK434.out 0; have hfz41_1 := blk_frozen BK434.out 1) | ((with_reducible refine gate_callee (f := 19) rfl ?_); refine gL (some 29) Try.func19 #[.agg #[.slice Ao35 t442.length co35, .slice Ao40 t445.length co40], .agg #[.slice Ao21 t428.length co21, .slice Ao24 t431.length co24]] ?_; (with_reducible refine (laws_eqDisk.calls kj3 _ _ t442 _ _ t445 _ _ t428 _ _ t431 t449 _ ?side1 ?side2 ?side3 ?side4 ?side5 ?side6 ?side7 ?side8 A13.out).mono ?_); (case side1 => refine (Kd.R_reads' (e := 9) (base := w.heap.size) (ok := fun k_ => (((True ∧ some k_ ≠ (.slice Ao17 t422.length co17 : Value).ownBlock) ∧ some k_ ≠ (.slice Ao21 t428.length co21 : Value).ownBlock) ∧ some k_ ≠ (.slice Ao28 t435.length co28 : Value).ownBlock)) (n := t442.length) (c := co35) ?_).2.2; exact (rP (Kd.R_mono (Kd.R_far (p := ⟨gb448, 1, none⟩) (Kd.R_far (p := ⟨gb448, 0, none⟩) (Kd.R_types HO444.out BK448.out (by decide)) (fun _ hk => hk.2) (.slice Ao35 t442.length co35)) (fun _ hk => hk.2) (.slice Ao40 t445.length co40)) (fun _ h_ => h_.1)))); (case side2 => exact (Kd.R_reads' HO444.out).2.1); (case side3 => refine (Kd.R_reads' (e := 65) (base := w.heap.size) (ok := fun k_ => (((True ∧ some k_ ≠ (.slice Ao18 t425.length co18 : Value).ownBlock) ∧ some k_ ≠ (.slice Ao24 t431.length co24 : Value).ownBlock) ∧ some k_ ≠ (.slice Ao32 t438.length co32 : Value).ownBlock)) (n := t445.length) (c := co40) ?_).2.2; exact (rP (Kd.R_mono (Kd.R_far (p := ⟨gb448, 1, none⟩) (Kd.R_far (p := ⟨gb448, 0, none⟩) (Kd.R_types HO447.out BK448.out (by decide)) (fun _ hk => hk.2) (.slice Ao35 t442.length co35)) (fun _ hk => hk.2) (.slice Ao40 t445.length co40)) (fun _ h_ => h_.1)))); (case side4 => exact (Kd.R_reads' HO447.out).2.1); (case side5 => refine (Kd.R_reads' (e := 9) (base := w.heap.size) (ok := fun k_ => (((True ∧ some k_ ≠ (.slice Ao17 t422.length co17 : Value).ownBlock) ∧ some k_ ≠ (.slice Ao28 t435.length co28 : Value).ownBlock) ∧ some k_ ≠ (.slice Ao35 t442.length co35 : Value).ownBlock)) (n := t428.length) (c := co21) ?_).2.2; exact (rP (Kd.R_mono (Kd.R_far (p := ⟨gb448, 1, none⟩) (Kd.R_far (p := ⟨gb448, 0, none⟩) (Kd.R_types HO430.out BK448.out (by decide)) (fun _ hk => hk.2) (.slice Ao35 t442.length co35)) (fun _ hk => hk.2) (.slice Ao40 t445.length co40)) (fun _ h_ => h_.1)))); (case side6 => exact (Kd.R_reads' HO430.out).2.1); (case side7 => refine (Kd.R_reads' (e := 65) (base := w.heap.size) (ok := fun k_ => (((True ∧ some k_ ≠ (.slice Ao18 t425.length co18 : Value).ownBlock) ∧ some k_ ≠ (.slice Ao32 t438.length co32 : Value).ownBlock) ∧ some k_ ≠ (.slice Ao40 t445.length co40 : Value).ownBlock)) (n := t431.length) (c := co24) ?_).2.2; exact (rP (Kd.R_mono (Kd.R_far (p := ⟨gb448, 1, none⟩) (Kd.R_far (p := ⟨gb448, 0, none⟩) (Kd.R_types HO433.out BK448.out (by decide)) (fun _ hk => hk.2) (.slice Ao35 t442.length co35)) (fun _ hk => hk.2) (.slice Ao40 t445.length co40)) (fun _ h_ => h_.1)))); (case side8 => exact (Kd.R_reads' HO433.out).2.1); rintro e w42 ⟨rfl, hb⟩; refine ⟨_, rfl, ?_⟩; have n_ := And.intro (Aside0.mk (Kd.R_below (rP (Kd.R_mono (Kd.R_far (p := ⟨gb448, 1, none⟩) (Kd.R_far (p := ⟨gb448, 0, none⟩) (Kd.R_types HO424.out BK448.out (by decide)) (fun _ hk => hk.2) (.slice Ao35 t442.length co35)) (fun _ hk => hk.2) (.slice Ao40 t445.length co40)) (fun _ h_ => h_.1))) hb)) (And.intro (Aside0.mk (Kd.R_below (rP (Kd.R_mono (Kd.R_far (p := ⟨gb448, 1, none⟩) (Kd.R_far (p := ⟨gb448, 0, none⟩) (Kd.R_types HO427.out BK448.out (by decide)) (fun _ hk => hk.2) (.slice Ao35 t442.length co35)) (fun _ hk => hk.2) (.slice Ao40 t445.length co40)) (fun _ h_ => h_.1))) hb)) (And.intro (Aside0.mk (Kd.R_below (rP (Kd.R_mono (Kd.R_far (p := ⟨gb448, 1, none⟩) (Kd.R_far (p := ⟨gb448, 0, none⟩) (Kd.R_types HO430.out BK448.out (by decide)) (fun _ hk => hk.2) (.slice Ao35 t442.length co35)) (fun _ hk => hk.2) (.slice Ao40 t445.length co40)) (fun _ h_ => h_.1))) hb)) (And.intro (Aside0.mk (Kd.R_below (rP (Kd.R_mono (Kd.R_far (p := ⟨gb448, 1, none⟩) (Kd.R_far (p := ⟨gb448, 0, none⟩) (Kd.R_types HO433.out BK448.out (by decide)) (fun _ hk => hk.2) (.slice Ao35 t442.length co35)) (fun _ hk => hk.2) (.slice Ao40 t445.length co40)) (fun _ h_ => h_.1))) hb)) (And.intro (Aside0.mk (Kd.R_below (rP (Kd.R_mono (Kd.R_far (p := ⟨gb448, 1, none⟩) (Kd.R_far (p := ⟨gb448, 0, none⟩) (Kd.R_types HO437.out BK448.out (by decide)) (fun _ hk => hk.2) (.slice Ao35 t442.length co35)) (fun _ hk => hk.2) (.slice Ao40 t445.length co40)) (fun _ h_ => h_.1))) hb)) (And.intro (Aside0.mk (Kd.R_below (rP (Kd.R_mono (Kd.R_far (p := ⟨gb448, 1, none⟩) (Kd.R_far (p := ⟨gb448, 0, none⟩) (Kd.R_types HO440.out BK448.out (by decide)) (fun _ hk => hk.2) (.slice Ao35 t442.length co35)) (fun _ hk => hk.2) (.slice Ao40 t445.length co40)) (fun _ h_ => h_.1))) hb)) (And.intro (Aside0.mk (Kd.R_below (rP (Kd.R_mono (Kd.R_far (p := ⟨gb448, 1, none⟩) (Kd.R_far (p := ⟨gb448, 0, none⟩) (Kd.R_types HO444.out BK448.out (by decide)) (fun _ hk => hk.2) (.slice Ao35 t442.length co35)) (fun _ hk => hk.2) (.slice Ao40 t445.length co40)) (fun _ h_ => h_.1))) hb)) (And.intro (Aside0.mk (Kd.R_below (rP (Kd.R_mono (Kd.R_far (p := ⟨gb448, 1, none⟩) (Kd.R_far (p := ⟨gb448, 0, none⟩) (Kd.R_types HO447.out BK448.out (by decide)) (fun _ hk => hk.2) (.slice Ao35 t442.length co35)) (fun _ hk => hk.2) (.slice Ao40 t445.length co40)) (fun _ h_ => h_.1))) hb)) (And.intro (kB BK420 hb) (And.intro (kB BK434 hb) (And.intro (kB BK441 hb) (And.intro (Aside0.mk (blk_below (g := gb448) (o := .cells #[.slice Ao35 t442.length co35, .slice Ao40 t445.length co40] 30 (0, 0)) (by (with_reducible repeat (first | refine blk_drewN ?_ _ | refine blk_drew ?_ | refine blk_alloc ?_ _)); refine blk_put (cs := #[.slice Ao35 t442.length co35, .slice none 0 0]) ?_ 1 _ rfl; (with_reducible repeat (first | refine blk_drewN ?_ _ | refine blk_drew ?_ | refine blk_alloc ?_ _)); refine blk_put (cs := #[.slice none 0 0, .slice none 0 0]) ?_ 0 _ rfl; (with_reducible repeat (first | refine blk_drewN ?_ _ | refine blk_drew ?_ | refine blk_alloc ?_ _)); exact BK448.out) hb)) (sB HB hb)))))))))))); clear HO424 HO427 HO430 HO433 HO437 HO440 HO444 HO447 BK420 BK434 BK441 BK448 HB; obtain ⟨HO424, HO427, HO430, HO433, HO437, HO440, HO444, HO447, BK420, BK434, BK441, BK448, HB⟩ := n_; (try clear hb)))
   (try simp only [Act.put, List.setIfInBounds_toArray, List.set_cons_zero, List.set_cons_succ])
   go_cut [] (fun wc => ∃ (kq : Nat), Aside0 (laws_FnExactRecover.j1 kq a1 l0_0 l0_1 t428 t431 t435 t438 t442 t445 = some r) ∧ Aside0 (kq ≤ kj3) ∧ Aside0 (Kd.R Kd.string 9 wc w.heap.size (fun k_ => some k_ ≠ ((.slice Ao28 t435.length co28) : Value).ownBlock ∧ some k_ ≠ ((.slice Ao35 t442.length co35) : Value).ownBlock) (.slice Ao21 t428.length co21) t428) ∧ Aside0 (Kd.R k65 65 wc w.heap.size (fun k_ => some k_ ≠ ((.slice Ao32 t438.length co32) : Value).ownBlock ∧ some k_ ≠ ((.slice Ao40 t445.length co40) : Value).ownBlock) (.slice Ao24 t431.length co24) t431) ∧ Aside0 (Kd.R Kd.string 9 wc w.heap.size (fun k_ => some k_ ≠ ((.slice Ao21 t428.length co21) : Value).ownBlock ∧ some k_ ≠ ((.slice Ao35 t442.length co35) : Value).ownBlock) (.slice Ao28 t435.length co28) t435) ∧ Aside0 (Kd.R k65 65 wc w.heap.size (fun k_ => some k_ ≠ ((.slice Ao24 t431.length co24) : Value).ownBlock ∧ some k_ ≠ ((.slice Ao40 t445.length co40) : Value).ownBlock) (.slice Ao32 t438.length co32) t438) ∧ Aside0 (Kd.R Kd.string 9 wc w.heap.size (fun k_ => some k_ ≠ ((.slice Ao21 t428.length co21) : Value).ownBlock ∧ some k_ ≠ ((.slice Ao28 t435.length co28) : Value).ownBlock) (.slice Ao35 t442.length co35) t442) ∧ Aside0 (Kd.R k65 65 wc w.heap.size (fun k_ => some k_ ≠ ((.slice Ao24 t431.length co24) : Value).ownBlock ∧ some k_ ≠ ((.slice Ao32 t438.length co32) : Value).ownBlock) (.slice Ao40 t445.length co40) t445) ∧ Aside0 (wc.heap[gb420]? = some (.cells #[(.slice A0_0 l0_0.length c0_0), (.slice A0_1 l0_1.length c0_1)] 25 (0, 0))) ∧ Aside0 (wc.heap[gb434]? = some (.cells #[(.slice Ao21 t428.length co21), (.slice Ao24 t431.length co24)] 30 (0, 0))) ∧ Aside0 (wc.heap[gb441]? = some (.cells #[(.slice Ao28 t435.length co28), (.slice Ao32 t438.length co32)] 30 (0, 0))) ∧ Aside0 (wc.heap[gb448]? = some (.cells #[(.slice Ao35 t442.length co35), (.slice Ao40 t445.length co40)] 30 (0, 0))) ∧ Aside0 (Below w.heap.size w wc))
   case first =>
    have H := HC14.out
    clear HC14
    by_cases c43 : t449 = true
    ·subst c43
     rw [if_pos rfl] at H
     have H' := Aside0.mk H
     clear H
     go_wp2
     go_meet
     case rel => exact ⟨_, H', ⟨by have := HJ3.out; first | omega | exact Nat.le_refl _⟩, ⟨rP (Kd.R_mono HO430.out (fun _ hk => ⟨hk.1.2, hk.2⟩))⟩, ⟨rP (Kd.R_mono HO433.out (fun _ hk => ⟨hk.1.2, hk.2⟩))⟩, ⟨rP (Kd.R_mono HO437.out (fun _ hk => ⟨hk.1.2, hk.2⟩))⟩, ⟨rP (Kd.R_mono HO440.out (fun _ hk => ⟨hk.1.2, hk.2⟩))⟩, ⟨rP (Kd.R_mono HO444.out (fun _ hk => ⟨hk.1.2, hk.2⟩))⟩, ⟨rP (Kd.R_mono HO447.out (fun _ hk => ⟨hk.1.2, hk.2⟩))⟩, ⟨kP BK420⟩, ⟨kP BK434⟩, ⟨kP BK441⟩, ⟨kP BK448⟩, ⟨bB⟩⟩
    ·replace c43 := Bool.eq_false_iff.mpr c43
     subst c43
     rw [if_neg (show ¬ (false = true) by decide)] at H
     obtain rfl := Option.some.inj H
     go_wp2
     go_ret
     exact ⟨eW, bB⟩
   case rest =>
    clear HC14
    try clear c1
    try clear c2
    try clear p2
    try clear c3
    try clear c4
    try clear c8
    try clear c8b0
    try clear c8b1
    try clear c8b2
    try clear c10
    try clear c15
    try clear c17
    try clear c19
    try clear c22
    try clear c29
    try clear c30
    try clear c36
    try clear c37
    try clear c38
    try clear c43
    try clear hcz15_0
    try clear hcz15_1
    try clear hcz23_0
    try clear hcz23_1
    try clear hcz25_0
    try clear hcz25_1
    try clear hcz31_0
    try clear hcz31_1
    try clear hcz39_0
    try clear hcz39_1
    try clear hcz41_0
    try clear hcz41_1
    try clear hcz6_0
    try clear hcz6_1
    try clear hfz15_0
    try clear hfz15_1
    try clear hfz23_0
    try clear hfz23_1
    try clear hfz25_0
    try clear hfz25_1
    try clear hfz31_0
    try clear hfz31_1
    try clear hfz39_0
    try clear hfz39_1
    try clear hfz41_0
    try clear hfz41_1
    try clear hfz6_0
    try clear hfz6_1
    try clear p2
    obtain ⟨kq, HA, HJ13, HO_435000, HO_435001, HO_442000, HO_442001, HO_449000, HO_449001, BK420, BK434, BK441, BK448, HB⟩ := hcut
    cases kq with
    | zero => exact absurd HA.out (by simp [laws_FnExactRecover.j1])
    | succ kj13 =>
     have H := HA.out
     clear HA
     simp only [laws_FnExactRecover.j1] at H
     replace H := Option.bind_eq_some_iff.mp H
     obtain ⟨⟨t450, t453⟩, A440, H⟩ := H
     try dsimp only at H
     have A44 := Aside0.mk A440
     clear A440
     replace H := Option.bind_eq_some_iff.mp H
     obtain ⟨t456, A450, H⟩ := H
     try dsimp only at H
     have A45 := Aside0.mk A450
     clear A450
     have HC46 := Aside0.mk H
     clear H
     try go_wp2
     have n0_ := Aside0.mk (Kd.R_drew HO_435000.out)
     have n1_ := Aside0.mk (Kd.R_drew HO_435001.out)
     have n2_ := Aside0.mk (Kd.R_drew HO_442000.out)
     have n3_ := Aside0.mk (Kd.R_drew HO_442001.out)
     have n4_ := Aside0.mk (Kd.R_drew HO_449000.out)
     have n5_ := Aside0.mk (Kd.R_drew HO_449001.out)
     have n6_ := Aside0.mk (blk_drew BK420.out)
     have n7_ := Aside0.mk (blk_drew BK434.out)
     have n8_ := Aside0.mk (blk_drew BK441.out)
     have n9_ := Aside0.mk (blk_drew BK448.out)
     have n10_ := Aside0.mk (below_drew1 HB.out)
     clear HO_435000
     clear HO_435001
     clear HO_442000
     clear HO_442001
     clear HO_449000
     clear HO_449001
     clear BK420
     clear BK434
     clear BK441
     clear BK448
     clear HB
     have HO_435000 := n0_
     have HO_435001 := n1_
     have HO_442000 := n2_
     have HO_442001 := n3_
     have HO_449000 := n4_
     have HO_449001 := n5_
     have BK420 := n6_
     have BK434 := n7_
     have BK441 := n8_
     have BK448 := n9_
     have HB := n10_
     clear n0_ n1_ n2_ n3_ n4_ n5_ n6_ n7_ n8_ n9_ n10_
     refine start_ (n := 5) (S := fun w' => w'.cell? ⟨gb441, 0, none⟩ = some (.slice Ao28 t435.length co28) ∧ w'.cell? ⟨gb441, 1, none⟩ = some (.slice Ao32 t438.length co32) ∧ w'.cell? ⟨gb420, 0, none⟩ = some (.slice A0_0 l0_0.length c0_0) ∧ w'.cell? ⟨gb420, 1, none⟩ = some (.slice A0_1 l0_1.length c0_1)) (ds := []) #[false, false, false, false, false] (by kernel_rfl) rfl rfl ⟨(blk_cell BK441.out 0).trans rfl, (blk_cell BK441.out 1).trans rfl, (blk_cell BK420.out 0).trans rfl, (blk_cell BK420.out 1).trans rfl⟩ (fun hHeld => ?_)
     generalize wc.drew = w47 at HO_435000 HO_435001 HO_442000 HO_442001 HO_449000 HO_449001 BK420 BK434 BK441 BK448 HB hHeld ⊢
     refine take_ (i := 0) (N := some 31) (v := ?_) (a' := ?_) #[true, false, false, false, false] rfl rfl (by kernel_rfl) (fun _ _ _ h => h) (Or.inl ⟨by rfl, ?_⟩) hHeld ?_ ?_
     rotate_left
     ·rintro w' ⟨s0, s1, s2, s3⟩
      go_simp
      with_reducible rfl
     rotate_left
     ·simp only [Act.put, List.setIfInBounds_toArray, List.set_cons_zero, List.set_cons_succ, i64_w, i32_w]
      rfl
     refine take_ (i := 1) (N := some 32) (v := ?_) (a' := ?_) #[true, true, false, false, false] rfl rfl (by kernel_rfl) (fun _ _ _ h => h) (Or.inl ⟨by rfl, ?_⟩) hHeld ?_ ?_
     rotate_left
     ·rintro w' ⟨s0, s1, s2, s3⟩
      go_simp
      with_reducible rfl
     rotate_left
     ·simp only [Act.put, List.setIfInBounds_toArray, List.set_cons_zero, List.set_cons_succ, i64_w, i32_w]
      rfl
     refine one_ (i := 2) (N := some 33) #[true, true, true, false, false] rfl rfl (by kernel_rfl) (by decide) (fun K hK => ?_)
     refine goes_ Try.func17 (by kernel_rfl) rfl #[.agg #[.slice A0_0 l0_0.length c0_0, .slice A0_1 l0_1.length c0_1]] (by rfl) rfl rfl (by (try simp only [List.map_toArray, List.map_cons, List.map_nil]); first | done | rfl | (simp only [List.length_drop, List.length_take]; rfl)) ?_
     with_reducible refine (laws_toDisk.calls kj13 _ _ l0_0 _ _ l0_1 t450 t453 _ ?side1 ?side2 ?side3 ?side4 A44.out).mono ?_
     (case side1 => exact cS HR0_0 HB)
     (case side2 => exact HC0_0.out)
     (case side3 => exact cS HR0_1 HB)
     (case side4 => exact HC0_1.out)
     rintro e w48 ⟨v451, v454, rfl, ho0, ho1, hb⟩
     refine ⟨_, rfl, ?_⟩
     have n0_ := eR HO_435000 ho0 hb
     have n1_ := eR HO_435001 ho1 hb
     have n2_ := eR HO_442000 ho0 hb
     have n3_ := eR HO_442001 ho1 hb
     have n4_ := eR HO_449000 ho0 hb
     have n5_ := eR HO_449001 ho1 hb
     have n6_ := Aside0.mk (Kd.R_lower (Kd.R_new' (Kd.R_new' (Kd.R_new' ho0 (rL HO_435000)) (rL HO_442000)) (rL HO_449000)) (zB HB))
     have n7_ := Aside0.mk (Kd.R_lower (Kd.R_new' (Kd.R_new' (Kd.R_new' ho1 (rL HO_435001)) (rL HO_442001)) (rL HO_449001)) (zB HB))
     have n8_ := kB BK420 hb
     have n9_ := kB BK434 hb
     have n10_ := kB BK441 hb
     have n11_ := kB BK448 hb
     have n12_ := sB HB hb
     clear HO_435000
     clear HO_435001
     clear HO_442000
     clear HO_442001
     clear HO_449000
     clear HO_449001
     clear BK420
     clear BK434
     clear BK441
     clear BK448
     clear HB
     have HO_435000 := n0_
     have HO_435001 := n1_
     have HO_442000 := n2_
     have HO_442001 := n3_
     have HO_449000 := n4_
     have HO_449001 := n5_
     have HO452 := n6_
     have HO455 := n7_
     have BK420 := n8_
     have BK434 := n9_
     have BK441 := n10_
     have BK448 := n11_
     have HB := n12_
     clear n0_ n1_ n2_ n3_ n4_ n5_ n6_ n7_ n8_ n9_ n10_ n11_ n12_
     (try clear hb)
     (try clear hb2)
     (try clear hk)
     (try clear hi)
     (try clear ho0)
     (try clear ho1)
     obtain ⟨Ao49, co49, eo49⟩ := Kd.R_slice HO452.out
     (first | subst eo49 | (injection eo49 with f1_ f2_ f3_; have f4_ := f1_.symm; have f5_ := f3_.symm; clear f1_ f2_ f3_; subst f4_; subst f5_))
     obtain ⟨Ao50, co50, eo50⟩ := Kd.R_slice HO455.out
     (first | subst eo50 | (injection eo50 with f1_ f2_ f3_; have f4_ := f1_.symm; have f5_ := f3_.symm; clear f1_ f2_ f3_; subst f4_; subst f5_))
     refine hK.out _ _ ⟨(blk_cell BK441.out 0).trans rfl, (blk_cell BK441.out 1).trans rfl, (blk_cell BK420.out 0).trans rfl, (blk_cell BK420.out 1).trans rfl⟩ (fun hHeld => ?_)
     clear hK K
     refine norm_ (a' := ?_) ?_ ?_
     rotate_left
     ·show Act.put _ (some 33) _ = _
      simp only [Act.put, List.setIfInBounds_toArray, List.set_cons_zero, List.set_cons_succ, i64_w, i32_w]
      rfl
     refine one_ (i := 3) (N := some 34) #[true, true, true, true, false] rfl rfl (by kernel_rfl) (by decide) (fun K hK => ?_)
     refine goes_ Try.func19 (by kernel_rfl) rfl #[.agg #[.slice Ao28 t435.length co28, .slice Ao32 t438.length co32], .agg #[.slice Ao49 t450.length co49, .slice Ao50 t453.length co50]] (by rfl) rfl rfl (by (try simp only [List.map_toArray, List.map_cons, List.map_nil]); first | done | rfl | (simp only [List.length_drop, List.length_take]; rfl)) ?_
     with_reducible refine (laws_eqDisk.calls kj13 _ _ t435 _ _ t438 _ _ t450 _ _ t453 t456 _ ?side1 ?side2 ?side3 ?side4 ?side5 ?side6 ?side7 ?side8 A45.out).mono ?_
     (case side1 => exact cR HO_442000)
     (case side2 => exact (Kd.R_reads' HO_442000.out).2.1)
     (case side3 => exact cR HO_442001)
     (case side4 => exact (Kd.R_reads' HO_442001.out).2.1)
     (case side5 => exact cR HO452)
     (case side6 => exact (Kd.R_reads' HO452.out).2.1)
     (case side7 => exact cR HO455)
     (case side8 => exact (Kd.R_reads' HO455.out).2.1)
     rintro e w51 ⟨rfl, hb⟩
     refine ⟨_, rfl, ?_⟩
     have n0_ := rB HO_435000 hb
     have n1_ := rB HO_435001 hb
     have n2_ := rB HO_442000 hb
     have n3_ := rB HO_442001 hb
     have n4_ := rB HO_449000 hb
     have n5_ := rB HO_449001 hb
     have n6_ := rB HO452 hb
     have n7_ := rB HO455 hb
     have n8_ := kB BK420 hb
     have n9_ := kB BK434 hb
     have n10_ := kB BK441 hb
     have n11_ := kB BK448 hb
     have n12_ := sB HB hb
     clear HO_435000
     clear HO_435001
     clear HO_442000
     clear HO_442001
     clear HO_449000
     clear HO_449001
     clear HO452
     clear HO455
     clear BK420
     clear BK434
     clear BK441
     clear BK448
     clear HB
     have HO_435000 := n0_
     have HO_435001 := n1_
     have HO_442000 := n2_
     have HO_442001 := n3_
     have HO_449000 := n4_
     have HO_449001 := n5_
     have HO452 := n6_
     have HO455 := n7_
     have BK420 := n8_
     have BK434 := n9_
     have BK441 := n10_
     have BK448 := n11_
     have HB := n12_
     clear n0_ n1_ n2_ n3_ n4_ n5_ n6_ n7_ n8_ n9_ n10_ n11_ n12_
     (try clear hb)
     (try clear hb2)
     (try clear hk)
     (try clear hi)
     refine hK.out _ _ ⟨(blk_cell BK441.out 0).trans rfl, (blk_cell BK441.out 1).trans rfl, (blk_cell BK420.out 0).trans rfl, (blk_cell BK420.out 1).trans rfl⟩ (fun hHeld => ?_)
     clear hK K
     refine norm_ (a' := ?_) ?_ ?_
     rotate_left
     ·show Act.put _ (some 34) _ = _
      simp only [Act.put, List.setIfInBounds_toArray, List.set_cons_zero, List.set_cons_succ, i64_w, i32_w]
      rfl
     refine pure_ (i := 4) (N := some 35) (v := ?_) (a' := ?_) #[true, true, true, true, true] rfl rfl (by kernel_rfl) (fun _ _ _ h => h) (Or.inl ⟨by rfl, ?_⟩) ?_ ?_
     rotate_left
     ·intro w'
      go_simp
      with_reducible rfl
     rotate_left
     ·simp only [Act.put, List.setIfInBounds_toArray, List.set_cons_zero, List.set_cons_succ, i64_w, i32_w]
      rfl
     refine done_ (by kernel_rfl) ?_
     go_upto_if 35 with (fail)
     go_cut [] (fun wc => ∃ (kq : Nat), Aside0 (laws_FnExactRecover.j2 kq a1 l0_0 l0_1 t428 t431 t435 t438 t442 t445 = some r) ∧ Aside0 (kq ≤ kj13) ∧ Aside0 (Kd.R Kd.string 9 wc w.heap.size (fun k_ => some k_ ≠ ((.slice Ao28 t435.length co28) : Value).ownBlock ∧ some k_ ≠ ((.slice Ao35 t442.length co35) : Value).ownBlock) (.slice Ao21 t428.length co21) t428) ∧ Aside0 (Kd.R k65 65 wc w.heap.size (fun k_ => some k_ ≠ ((.slice Ao32 t438.length co32) : Value).ownBlock ∧ some k_ ≠ ((.slice Ao40 t445.length co40) : Value).ownBlock) (.slice Ao24 t431.length co24) t431) ∧ Aside0 (Kd.R Kd.string 9 wc w.heap.size (fun k_ => some k_ ≠ ((.slice Ao21 t428.length co21) : Value).ownBlock ∧ some k_ ≠ ((.slice Ao35 t442.length co35) : Value).ownBlock) (.slice Ao28 t435.length co28) t435) ∧ Aside0 (Kd.R k65 65 wc w.heap.size (fun k_ => some k_ ≠ ((.slice Ao24 t431.length co24) : Value).ownBlock ∧ some k_ ≠ ((.slice Ao40 t445.length co40) : Value).ownBlock) (.slice Ao32 t438.length co32) t438) ∧ Aside0 (Kd.R Kd.string 9 wc w.heap.size (fun k_ => some k_ ≠ ((.slice Ao21 t428.length co21) : Value).ownBlock ∧ some k_ ≠ ((.slice Ao28 t435.length co28) : Value).ownBlock) (.slice Ao35 t442.length co35) t442) ∧ Aside0 (Kd.R k65 65 wc w.heap.size (fun k_ => some k_ ≠ ((.slice Ao24 t431.length co24) : Value).ownBlock ∧ some k_ ≠ ((.slice Ao32 t438.length co32) : Value).ownBlock) (.slice Ao40 t445.length co40) t445) ∧ Aside0 (wc.heap[gb420]? = some (.cells #[(.slice A0_0 l0_0.length c0_0), (.slice A0_1 l0_1.length c0_1)] 25 (0, 0))) ∧ Aside0 (wc.heap[gb434]? = some (.cells #[(.slice Ao21 t428.length co21), (.slice Ao24 t431.length co24)] 30 (0, 0))) ∧ Aside0 (wc.heap[gb441]? = some (.cells #[(.slice Ao28 t435.length co28), (.slice Ao32 t438.length co32)] 30 (0, 0))) ∧ Aside0 (wc.heap[gb448]? = some (.cells #[(.slice Ao35 t442.length co35), (.slice Ao40 t445.length co40)] 30 (0, 0))) ∧ Aside0 (Below w.heap.size w wc))
     case first =>
      have H := HC46.out
      clear HC46
      by_cases c52 : t456 = true
      ·subst c52
       rw [if_pos rfl] at H
       have H' := Aside0.mk H
       clear H
       go_wp2
       go_meet
       case rel => exact ⟨_, H', ⟨by have := HJ3.out; have := HJ13.out; first | omega | exact Nat.le_refl _⟩, ⟨rP (Kd.R_mono HO_435000.out (fun _ hk => ⟨hk.1.1, hk.1.2⟩))⟩, ⟨rP (Kd.R_mono HO_435001.out (fun _ hk => ⟨hk.1.1, hk.1.2⟩))⟩, ⟨rP (Kd.R_mono HO_442000.out (fun _ hk => ⟨hk.1.1, hk.1.2⟩))⟩, ⟨rP (Kd.R_mono HO_442001.out (fun _ hk => ⟨hk.1.1, hk.1.2⟩))⟩, ⟨rP (Kd.R_mono HO_449000.out (fun _ hk => ⟨hk.1.1, hk.1.2⟩))⟩, ⟨rP (Kd.R_mono HO_449001.out (fun _ hk => ⟨hk.1.1, hk.1.2⟩))⟩, ⟨kP BK420⟩, ⟨kP BK434⟩, ⟨kP BK441⟩, ⟨kP BK448⟩, ⟨bB⟩⟩
      ·replace c52 := Bool.eq_false_iff.mpr c52
       subst c52
       rw [if_neg (show ¬ (false = true) by decide)] at H
       obtain rfl := Option.some.inj H
       go_wp2
       go_ret
       exact ⟨eW, bB⟩
     case rest =>
      clear HC46
      try clear c1
      try clear c2
      try clear p2
      try clear c3
      try clear c4
      try clear c5
      try clear c8
      try clear c8b0
      try clear c8b1
      try clear c8b2
      try clear c10
      try clear c15
      try clear c17
      try clear c19
      try clear c22
      try clear c29
      try clear c30
      try clear c36
      try clear c37
      try clear c38
      try clear c43
      try clear c44
      try clear c45
      try clear c52
      try clear hcz15_0
      try clear hcz15_1
      try clear hcz23_0
      try clear hcz23_1
      try clear hcz25_0
      try clear hcz25_1
      try clear hcz31_0
      try clear hcz31_1
      try clear hcz39_0
      try clear hcz39_1
      try clear hcz41_0
      try clear hcz41_1
      try clear hcz6_0
      try clear hcz6_1
      try clear hfz15_0
      try clear hfz15_1
      try clear hfz23_0
      try clear hfz23_1
      try clear hfz25_0
      try clear hfz25_1
      try clear hfz31_0
      try clear hfz31_1
      try clear hfz39_0
      try clear hfz39_1
      try clear hfz41_0
      try clear hfz41_1
      try clear hfz6_0
      try clear hfz6_1
      try clear p2
      obtain ⟨kq, HA, HJ45, HO_435000, HO_435001, HO_442000, HO_442001, HO_449000, HO_449001, BK420, BK434, BK441, BK448, HB⟩ := hcut
      cases kq with
      | zero => exact absurd HA.out (by simp [laws_FnExactRecover.j2])
      | succ kj45 =>
       have H := HA.out
       clear HA
       simp only [laws_FnExactRecover.j2] at H
       replace H := Option.bind_eq_some_iff.mp H
       obtain ⟨⟨t457, t458, t459⟩, A530, H⟩ := H
       try dsimp only at H
       have A53 := Aside0.mk A530
       clear A530
       have HC54 := Aside0.mk H
       clear H
       have hnb55 := NB441_420.out
       have hnc55 := NB420_441.out
       have hnb56 := NB441_434.out
       have hnc56 := NB434_441.out
       have hnb57 := NB441_448.out
       have hnc57 := NB448_441.out
       have hcz58_0 := cZ0 BK441
       have hcz58_1 := cZ1 BK441
       have hfz58_0 := blk_frozen BK441.out 0
       have hfz58_1 := blk_frozen BK441.out 1
       go_upto_region 14 with (first | ((with_reducible refine gate_callee (f := 25) rfl ?_); refine gL (some 38) Try.func25 #[.agg #[.slice Ao28 t435.length co28, .slice Ao32 t438.length co32], .int .i64 1] ?_; (with_reducible refine (laws_markDisk.calls kj45 (fun k_ => some k_ = (.slice Ao28 t435.length co28 : Value).ownBlock) (.slice Ao28 t435.length co28) t435 (fun k_ => some k_ = (.slice Ao32 t438.length co32 : Value).ownBlock) (.slice Ao32 t438.length co32) t438 1 t457 t458 t459 w _ ?side1 ?side2 ?side3 A53.out).mono ?_); (case side1 => repeat (first | (with_reducible first | exact HB.out | apply below_alloc | apply pw_below_drewN | apply below_drew1 | refine below_set ?_ GE420.out | refine below_set ?_ GE434.out | refine below_set ?_ GE441.out | refine below_set ?_ GE448.out) | exact HB.out)); (case side2 => exact Kd.R_tight rfl HO_442000.out); (case side3 => exact Kd.R_tight rfl HO_442001.out); rintro e w59 ⟨rfl, hy0, hy1, hb, hkp⟩; refine ⟨_, rfl, ?_⟩; have n_ := And.intro (Aside0.mk (Kd.R_mono (ok' := fun k_ => some k_ ≠ (.slice Ao28 t435.length co28 : Value).ownBlock ∧ some k_ ≠ (.slice Ao35 t442.length co35 : Value).ownBlock) (Kd.R_keptB ((Kd.R_apart' HO_435000.out (Kd.R_typed HO_442001.out) (by decide))) hkp (fun k_ hk_ hs_ => Or.elim hs_ (fun e_ => (hk_.1.1) e_) (fun e_ => (hk_.2) e_))) (fun k_ hk_ => ⟨hk_.1.1.1, hk_.1.1.2⟩))) (And.intro (Aside0.mk (Kd.R_mono (ok' := fun k_ => some k_ ≠ (.slice Ao32 t438.length co32 : Value).ownBlock ∧ some k_ ≠ (.slice Ao40 t445.length co40 : Value).ownBlock) (Kd.R_keptB ((Kd.R_apart' HO_435001.out (Kd.R_typed HO_442000.out) (by decide))) hkp (fun k_ hk_ hs_ => Or.elim hs_ (fun e_ => (hk_.2) e_) (fun e_ => (hk_.1.1) e_))) (fun k_ hk_ => ⟨hk_.1.1.1, hk_.1.1.2⟩))) (And.intro (Aside0.mk (Kd.R_reok rfl hy0 (fun k_ e_ => HO_442000.out.1 k_ e_))) (And.intro (Aside0.mk (Kd.R_reok rfl hy1 (fun k_ e_ => HO_442001.out.1 k_ e_))) (And.intro (Aside0.mk (Kd.R_mono (ok' := fun k_ => some k_ ≠ (.slice Ao21 t428.length co21 : Value).ownBlock ∧ some k_ ≠ (.slice Ao28 t435.length co28 : Value).ownBlock) (Kd.R_keptB ((Kd.R_apart' HO_449000.out (Kd.R_typed HO_442001.out) (by decide))) hkp (fun k_ hk_ hs_ => Or.elim hs_ (fun e_ => (hk_.1.2) e_) (fun e_ => (hk_.2) e_))) (fun k_ hk_ => ⟨hk_.1.1.1, hk_.1.1.2⟩))) (And.intro (Aside0.mk (Kd.R_mono (ok' := fun k_ => some k_ ≠ (.slice Ao24 t431.length co24 : Value).ownBlock ∧ some k_ ≠ (.slice Ao32 t438.length co32 : Value).ownBlock) (Kd.R_keptB ((Kd.R_apart' HO_449001.out (Kd.R_typed HO_442000.out) (by decide))) hkp (fun k_ hk_ hs_ => Or.elim hs_ (fun e_ => (hk_.2) e_) (fun e_ => (hk_.1.2) e_))) (fun k_ hk_ => ⟨hk_.1.1.1, hk_.1.1.2⟩))) (And.intro (Aside0.mk (blk_kept (kP BK420) hkp (fun hs_ => Or.elim hs_ (fun e_ => (fun e_ => (Kd.R_ne HO_442000.out BK420.out (by decide)) e_) e_) (fun e_ => (fun e_ => (Kd.R_ne HO_442001.out BK420.out (by decide)) e_) e_)))) (And.intro (Aside0.mk (blk_kept (kP BK434) hkp (fun hs_ => Or.elim hs_ (fun e_ => (fun e_ => (Kd.R_ne HO_442000.out BK434.out (by decide)) e_) e_) (fun e_ => (fun e_ => (Kd.R_ne HO_442001.out BK434.out (by decide)) e_) e_)))) (And.intro (Aside0.mk (blk_kept (kP BK441) hkp (fun hs_ => Or.elim hs_ (fun e_ => (fun e_ => (Kd.R_ne HO_442000.out BK441.out (by decide)) e_) e_) (fun e_ => (fun e_ => (Kd.R_ne HO_442001.out BK441.out (by decide)) e_) e_)))) (And.intro (Aside0.mk (blk_kept (kP BK448) hkp (fun hs_ => Or.elim hs_ (fun e_ => (fun e_ => (Kd.R_ne HO_442000.out BK448.out (by decide)) e_) e_) (fun e_ => (fun e_ => (Kd.R_ne HO_442001.out BK448.out (by decide)) e_) e_)))) (Aside0.mk (hb))))))))))); clear HO_435000 HO_435001 HO_442000 HO_442001 HO_449000 HO_449001 BK420 BK434 BK441 BK448 HB; obtain ⟨HO_435000, HO_435001, HO_442000, HO_442001, HO_449000, HO_449001, BK420, BK434, BK441, BK448, HB⟩ := n_; (try clear hb hkp hy0 hy1)))
       (try simp only [Act.put, List.setIfInBounds_toArray, List.set_cons_zero, List.set_cons_succ])
       go_cut [46] (fun v46 wc => ∃ (kq : Nat) (x46_53 : Bool), v46 = .bool x46_53 ∧ Aside0 (laws_FnExactRecover.j3 kq a1 x46_53 l0_0 l0_1 t428 t431 t442 t445 = some r) ∧ Aside0 (kq ≤ kj45) ∧ Aside0 (Kd.R Kd.string 9 wc w.heap.size (fun k_ => some k_ ≠ ((.slice Ao28 t435.length co28) : Value).ownBlock ∧ some k_ ≠ ((.slice Ao35 t442.length co35) : Value).ownBlock) (.slice Ao21 t428.length co21) t428) ∧ Aside0 (Kd.R k65 65 wc w.heap.size (fun k_ => some k_ ≠ ((.slice Ao32 t438.length co32) : Value).ownBlock ∧ some k_ ≠ ((.slice Ao40 t445.length co40) : Value).ownBlock) (.slice Ao24 t431.length co24) t431) ∧ Aside0 (Kd.R Kd.string 9 wc w.heap.size (fun k_ => some k_ ≠ ((.slice Ao21 t428.length co21) : Value).ownBlock ∧ some k_ ≠ ((.slice Ao35 t442.length co35) : Value).ownBlock) (.slice Ao28 t435.length co28) t458) ∧ Aside0 (Kd.R k65 65 wc w.heap.size (fun k_ => some k_ ≠ ((.slice Ao24 t431.length co24) : Value).ownBlock ∧ some k_ ≠ ((.slice Ao40 t445.length co40) : Value).ownBlock) (.slice Ao32 t438.length co32) t459) ∧ Aside0 (Kd.R Kd.string 9 wc w.heap.size (fun k_ => some k_ ≠ ((.slice Ao21 t428.length co21) : Value).ownBlock ∧ some k_ ≠ ((.slice Ao28 t435.length co28) : Value).ownBlock) (.slice Ao35 t442.length co35) t442) ∧ Aside0 (Kd.R k65 65 wc w.heap.size (fun k_ => some k_ ≠ ((.slice Ao24 t431.length co24) : Value).ownBlock ∧ some k_ ≠ ((.slice Ao32 t438.length co32) : Value).ownBlock) (.slice Ao40 t445.length co40) t445) ∧ Aside0 (wc.heap[gb420]? = some (.cells #[(.slice A0_0 l0_0.length c0_0), (.slice A0_1 l0_1.length c0_1)] 25 (0, 0))) ∧ Aside0 (wc.heap[gb434]? = some (.cells #[(.slice Ao21 t428.length co21), (.slice Ao24 t431.length co24)] 30 (0, 0))) ∧ Aside0 (wc.heap[gb441]? = some (.cells #[(.slice Ao28 t435.length co28), (.slice Ao32 t438.length co32)] 30 (0, 0))) ∧ Aside0 (wc.heap[gb448]? = some (.cells #[(.slice Ao35 t442.length co35), (.slice Ao40 t445.length co40)] 30 (0, 0))) ∧ Aside0 (Below w.heap.size w wc))
       case first =>
        have H := HC54.out
        clear HC54
        by_cases c60 : t457 < 0
        ·rw [if_pos c60] at H
         have c60b0 : decide (t457 < 0) = true := decide_eq_true c60
         clear c60
         (first | rw [c60b0] | (simp only [i64_w, i32_w]; rw [c60b0]) | rw [c60b1] | rw [c60b2] | skip)
         have H' := Aside0.mk H
         clear H
         go_wp2
         go_meet
         case rel => exact ⟨_, (true), (by first | rfl | (simp; done) | (simp [*]; done) | (simp; exact (by intro l_; cases l_ <;> rfl : ∀ l_ : List UInt8, l_.isEmpty = !(l_ != [])) _)), H', ⟨by have := HJ3.out; have := HJ13.out; have := HJ45.out; first | omega | exact Nat.le_refl _⟩, ⟨rP HO_435000.out⟩, ⟨rP HO_435001.out⟩, ⟨rP HO_442000.out⟩, ⟨rP HO_442001.out⟩, ⟨rP HO_449000.out⟩, ⟨rP HO_449001.out⟩, ⟨kP BK420⟩, ⟨kP BK434⟩, ⟨kP BK441⟩, ⟨kP BK448⟩, ⟨bB⟩⟩
        ·rw [if_neg c60] at H
         have c60b0 : decide (t457 < 0) = false := decide_eq_false c60
         clear c60
         (first | rw [c60b0] | (simp only [i64_w, i32_w]; rw [c60b0]) | rw [c60b1] | rw [c60b2] | skip)
         replace H := Option.bind_eq_some_iff.mp H
         obtain ⟨t460, A610, H⟩ := H
         try dsimp only at H
         have A61 := Aside0.mk A610
         clear A610
         have H' := Aside0.mk H
         clear H
         have hnb62 := NB448_420.out
         have hnc62 := NB420_448.out
         have hnb63 := NB448_434.out
         have hnc63 := NB434_448.out
         have hnb64 := NB448_441.out
         have hnc64 := NB441_448.out
         have hcz65_0 := cZ0 BK448
         have hcz65_1 := cZ1 BK448
         have hfz65_0 := blk_frozen BK448.out 0
         have hfz65_1 := blk_frozen BK448.out 1
         have hnb66 := NB434_420.out
         have hnc66 := NB420_434.out
         have hnb67 := NB434_441.out
         have hnc67 := NB441_434.out
         have hcz68_0 := cZ0 BK434
         have hcz68_1 := cZ1 BK434
         have hfz68_0 := blk_frozen BK434.out 0
         have hfz68_1 := blk_frozen BK434.out 1
         go_wp2_with (first | (go_at_call 19; (with_reducible refine (laws_eqDisk.calls kj45 _ _ t442 _ _ t445 _ _ t428 _ _ t431 t460 _ ?side1 ?side2 ?side3 ?side4 ?side5 ?side6 ?side7 ?side8 A61.out).mono ?_); (case side1 => exact cR HO_449000); (case side2 => exact (Kd.R_reads' HO_449000.out).2.1); (case side3 => exact cR HO_449001); (case side4 => exact (Kd.R_reads' HO_449001.out).2.1); (case side5 => exact cR HO_435000); (case side6 => exact (Kd.R_reads' HO_435000.out).2.1); (case side7 => exact cR HO_435001); (case side8 => exact (Kd.R_reads' HO_435001.out).2.1); rintro e w69 ⟨rfl, hb⟩; have n_ := And.intro (rB HO_435000 hb) (And.intro (rB HO_435001 hb) (And.intro (rB HO_442000 hb) (And.intro (rB HO_442001 hb) (And.intro (rB HO_449000 hb) (And.intro (rB HO_449001 hb) (And.intro (kB BK420 hb) (And.intro (kB BK434 hb) (And.intro (kB BK441 hb) (And.intro (kB BK448 hb) (sB HB hb)))))))))); clear HO_435000 HO_435001 HO_442000 HO_442001 HO_449000 HO_449001 BK420 BK434 BK441 BK448 HB; obtain ⟨HO_435000, HO_435001, HO_442000, HO_442001, HO_449000, HO_449001, BK420, BK434, BK441, BK448, HB⟩ := n_; (try clear hb)))
         go_meet
         case rel => exact ⟨_, (!t460), (by first | rfl | (simp; done) | (simp [*]; done) | (simp; exact (by intro l_; cases l_ <;> rfl : ∀ l_ : List UInt8, l_.isEmpty = !(l_ != [])) _)), H', ⟨by have := HJ3.out; have := HJ13.out; have := HJ45.out; first | omega | exact Nat.le_refl _⟩, ⟨rP HO_435000.out⟩, ⟨rP HO_435001.out⟩, ⟨rP HO_442000.out⟩, ⟨rP HO_442001.out⟩, ⟨rP HO_449000.out⟩, ⟨rP HO_449001.out⟩, ⟨kP BK420⟩, ⟨kP BK434⟩, ⟨kP BK441⟩, ⟨kP BK448⟩, ⟨bB⟩⟩
       case rest =>
        clear HC54
        try clear c1
        try clear c2
        try clear p2
        try clear c3
        try clear c4
        try clear c5
        try clear c6
        try clear c8
        try clear c8b0
        try clear c8b1
        try clear c8b2
        try clear c10
        try clear c15
        try clear c17
        try clear c19
        try clear c22
        try clear c25
        try clear c29
        try clear c30
        try clear c36
        try clear c37
        try clear c38
        try clear c43
        try clear c44
        try clear c45
        try clear c52
        try clear c55
        try clear c56
        try clear c57
        try clear c60
        try clear c60b0
        try clear c60b1
        try clear c60b2
        try clear c62
        try clear c63
        try clear c64
        try clear c66
        try clear c67
        try clear hcz15_0
        try clear hcz15_1
        try clear hcz23_0
        try clear hcz23_1
        try clear hcz25_0
        try clear hcz25_1
        try clear hcz31_0
        try clear hcz31_1
        try clear hcz39_0
        try clear hcz39_1
        try clear hcz41_0
        try clear hcz41_1
        try clear hcz58_0
        try clear hcz58_1
        try clear hcz65_0
        try clear hcz65_1
        try clear hcz68_0
        try clear hcz68_1
        try clear hcz6_0
        try clear hcz6_1
        try clear hfz15_0
        try clear hfz15_1
        try clear hfz23_0
        try clear hfz23_1
        try clear hfz25_0
        try clear hfz25_1
        try clear hfz31_0
        try clear hfz31_1
        try clear hfz39_0
        try clear hfz39_1
        try clear hfz41_0
        try clear hfz41_1
        try clear hfz58_0
        try clear hfz58_1
        try clear hfz65_0
        try clear hfz65_1
        try clear hfz68_0
        try clear hfz68_1
        try clear hfz6_0
        try clear hfz6_1
        try clear p2
        obtain ⟨kq, x46_53, rfl, HA, HJ53, HO_435000, HO_435001, HO_442000, HO_442001, HO_449000, HO_449001, BK420, BK434, BK441, BK448, HB⟩ := hcut
        have hl442000_53 := (Kd.R_reads' HO_442000.out).1
        rw [hl442000_53] at HO_442000
        (try simp only [hl442000_53])
        (try simp only [hl442000_53] at BK420)
        (try simp only [hl442000_53] at BK434)
        (try simp only [hl442000_53] at BK441)
        (try simp only [hl442000_53] at BK448)
        (try simp only [hl442000_53] at HO_435000)
        (try simp only [hl442000_53] at HO_435001)
        (try simp only [hl442000_53] at HO_442001)
        (try simp only [hl442000_53] at HO_449000)
        (try simp only [hl442000_53] at HO_449001)
        have hl442001_53 := (Kd.R_reads' HO_442001.out).1
        rw [hl442001_53] at HO_442001
        (try simp only [hl442001_53])
        (try simp only [hl442001_53] at BK420)
        (try simp only [hl442001_53] at BK434)
        (try simp only [hl442001_53] at BK441)
        (try simp only [hl442001_53] at BK448)
        (try simp only [hl442001_53] at HO_435000)
        (try simp only [hl442001_53] at HO_435001)
        (try simp only [hl442001_53] at HO_442000)
        (try simp only [hl442001_53] at HO_449000)
        (try simp only [hl442001_53] at HO_449001)
        cases kq with
        | zero => exact absurd HA.out (by simp [laws_FnExactRecover.j3])
        | succ kj53 =>
         have H := HA.out
         clear HA
         simp only [laws_FnExactRecover.j3] at H
         have HC70 := Aside0.mk H
         clear H
         go_upto_if 46 with (fail)
         go_cut [] (fun wc => ∃ (kq : Nat), Aside0 (laws_FnExactRecover.j4 kq a1 l0_0 l0_1 t428 t431 t442 t445 = some r) ∧ Aside0 (kq ≤ kj53) ∧ Aside0 (Kd.R Kd.string 9 wc w.heap.size (fun k_ => some k_ ≠ ((.slice Ao28 t458.length co28) : Value).ownBlock ∧ some k_ ≠ ((.slice Ao35 t442.length co35) : Value).ownBlock) (.slice Ao21 t428.length co21) t428) ∧ Aside0 (Kd.R k65 65 wc w.heap.size (fun k_ => some k_ ≠ ((.slice Ao32 t459.length co32) : Value).ownBlock ∧ some k_ ≠ ((.slice Ao40 t445.length co40) : Value).ownBlock) (.slice Ao24 t431.length co24) t431) ∧ Aside0 (Kd.R Kd.string 9 wc w.heap.size (fun k_ => some k_ ≠ ((.slice Ao21 t428.length co21) : Value).ownBlock ∧ some k_ ≠ ((.slice Ao35 t442.length co35) : Value).ownBlock) (.slice Ao28 t458.length co28) t458) ∧ Aside0 (Kd.R k65 65 wc w.heap.size (fun k_ => some k_ ≠ ((.slice Ao24 t431.length co24) : Value).ownBlock ∧ some k_ ≠ ((.slice Ao40 t445.length co40) : Value).ownBlock) (.slice Ao32 t459.length co32) t459) ∧ Aside0 (Kd.R Kd.string 9 wc w.heap.size (fun k_ => some k_ ≠ ((.slice Ao21 t428.length co21) : Value).ownBlock ∧ some k_ ≠ ((.slice Ao28 t458.length co28) : Value).ownBlock) (.slice Ao35 t442.length co35) t442) ∧ Aside0 (Kd.R k65 65 wc w.heap.size (fun k_ => some k_ ≠ ((.slice Ao24 t431.length co24) : Value).ownBlock ∧ some k_ ≠ ((.slice Ao32 t459.length co32) : Value).ownBlock) (.slice Ao40 t445.length co40) t445) ∧ Aside0 (wc.heap[gb420]? = some (.cells #[(.slice A0_0 l0_0.length c0_0), (.slice A0_1 l0_1.length c0_1)] 25 (0, 0))) ∧ Aside0 (wc.heap[gb434]? = some (.cells #[(.slice Ao21 t428.length co21), (.slice Ao24 t431.length co24)] 30 (0, 0))) ∧ Aside0 (wc.heap[gb441]? = some (.cells #[(.slice Ao28 t458.length co28), (.slice Ao32 t459.length co32)] 30 (0, 0))) ∧ Aside0 (wc.heap[gb448]? = some (.cells #[(.slice Ao35 t442.length co35), (.slice Ao40 t445.length co40)] 30 (0, 0))) ∧ Aside0 (Below w.heap.size w wc))
         case first =>
          have H := HC70.out
          clear HC70
          by_cases c71 : x46_53 = true
          ·subst c71
           rw [if_pos rfl] at H
           obtain rfl := Option.some.inj H
           go_wp2
           go_ret
           exact ⟨eW, bB⟩
          ·replace c71 := Bool.eq_false_iff.mpr c71
           subst c71
           rw [if_neg (show ¬ (false = true) by decide)] at H
           have H' := Aside0.mk H
           clear H
           go_wp2
           go_meet
           case rel => exact ⟨_, H', ⟨by have := HJ3.out; have := HJ13.out; have := HJ45.out; have := HJ53.out; first | omega | exact Nat.le_refl _⟩, ⟨by (try simp only [hl442000_53]); (try simp only [hl442001_53]); (with_reducible repeat (first | apply Kd.R_alloc | apply Kd.R_drewN | apply Kd.R_drew)); exact HO_435000.out⟩, ⟨by (try simp only [hl442000_53]); (try simp only [hl442001_53]); (with_reducible repeat (first | apply Kd.R_alloc | apply Kd.R_drewN | apply Kd.R_drew)); exact HO_435001.out⟩, ⟨by (try simp only [hl442000_53]); (try simp only [hl442001_53]); (with_reducible repeat (first | apply Kd.R_alloc | apply Kd.R_drewN | apply Kd.R_drew)); exact HO_442000.out⟩, ⟨by (try simp only [hl442000_53]); (try simp only [hl442001_53]); (with_reducible repeat (first | apply Kd.R_alloc | apply Kd.R_drewN | apply Kd.R_drew)); exact HO_442001.out⟩, ⟨by (try simp only [hl442000_53]); (try simp only [hl442001_53]); (with_reducible repeat (first | apply Kd.R_alloc | apply Kd.R_drewN | apply Kd.R_drew)); exact HO_449000.out⟩, ⟨by (try simp only [hl442000_53]); (try simp only [hl442001_53]); (with_reducible repeat (first | apply Kd.R_alloc | apply Kd.R_drewN | apply Kd.R_drew)); exact HO_449001.out⟩, ⟨by (try simp only [hl442000_53]); (try simp only [hl442001_53]); (with_reducible repeat (first | refine blk_drewN ?_ _ | refine blk_drew ?_ | refine blk_alloc ?_ _)); exact BK420.out⟩, ⟨by (try simp only [hl442000_53]); (try simp only [hl442001_53]); (with_reducible repeat (first | refine blk_drewN ?_ _ | refine blk_drew ?_ | refine blk_alloc ?_ _)); exact BK434.out⟩, ⟨by (try simp only [hl442000_53]); (try simp only [hl442001_53]); (with_reducible repeat (first | refine blk_drewN ?_ _ | refine blk_drew ?_ | refine blk_alloc ?_ _)); exact BK441.out⟩, ⟨by (try simp only [hl442000_53]); (try simp only [hl442001_53]); (with_reducible repeat (first | refine blk_drewN ?_ _ | refine blk_drew ?_ | refine blk_alloc ?_ _)); exact BK448.out⟩, ⟨bB⟩⟩
         case rest =>
          clear HC70
          try clear c1
          try clear c2
          try clear p2
          try clear c3
          try clear c4
          try clear c5
          try clear c6
          try clear c7
          try clear c8
          try clear c8b0
          try clear c8b1
          try clear c8b2
          try clear c10
          try clear c15
          try clear c17
          try clear c19
          try clear c22
          try clear c25
          try clear c29
          try clear c30
          try clear c36
          try clear c37
          try clear c38
          try clear c43
          try clear c44
          try clear c45
          try clear c52
          try clear c55
          try clear c56
          try clear c57
          try clear c60
          try clear c60b0
          try clear c60b1
          try clear c60b2
          try clear c62
          try clear c63
          try clear c64
          try clear c66
          try clear c67
          try clear c71
          try clear hcz15_0
          try clear hcz15_1
          try clear hcz23_0
          try clear hcz23_1
          try clear hcz25_0
          try clear hcz25_1
          try clear hcz31_0
          try clear hcz31_1
          try clear hcz39_0
          try clear hcz39_1
          try clear hcz41_0
          try clear hcz41_1
          try clear hcz58_0
          try clear hcz58_1
          try clear hcz65_0
          try clear hcz65_1
          try clear hcz68_0
          try clear hcz68_1
          try clear hcz6_0
          try clear hcz6_1
          try clear hfz15_0
          try clear hfz15_1
          try clear hfz23_0
          try clear hfz23_1
          try clear hfz25_0
          try clear hfz25_1
          try clear hfz31_0
          try clear hfz31_1
          try clear hfz39_0
          try clear hfz39_1
          try clear hfz41_0
          try clear hfz41_1
          try clear hfz58_0
          try clear hfz58_1
          try clear hfz65_0
          try clear hfz65_1
          try clear hfz68_0
          try clear hfz68_1
          try clear hfz6_0
          try clear hfz6_1
          try clear p2
          obtain ⟨kq, HA, HJ69, HO_435000, HO_435001, HO_442000, HO_442001, HO_449000, HO_449001, BK420, BK434, BK441, BK448, HB⟩ := hcut
          cases kq with
          | zero => exact absurd HA.out (by simp [laws_FnExactRecover.j4])
          | succ kj69 =>
           have H := HA.out
           clear HA
           simp only [laws_FnExactRecover.j4] at H
           replace H := Option.bind_eq_some_iff.mp H
           obtain ⟨⟨t461, t462, t463⟩, A720, H⟩ := H
           try dsimp only at H
           have A72 := Aside0.mk A720
           clear A720
           replace H := Option.bind_eq_some_iff.mp H
           obtain ⟨t464, A730, H⟩ := H
           try dsimp only at H
           have A73 := Aside0.mk A730
           clear A730
           have HC74 := Aside0.mk H
           clear H
           have hnb75 := NB448_420.out
           have hnc75 := NB420_448.out
           have hnb76 := NB448_434.out
           have hnc76 := NB434_448.out
           have hnb77 := NB448_441.out
           have hnc77 := NB441_448.out
           have hcz78_0 := cZ0 BK448
           have hcz78_1 := cZ1 BK448
           have hfz78_0 := blk_frozen BK448.out 0
           have hfz78_1 := blk_frozen BK448.out 1
           go_upto_if 54 with (first | ((with_reducible refine gate_callee (f := 25) rfl ?_); refine gL (some 49) Try.func25 #[.agg #[.slice Ao35 t442.length co35, .slice Ao40 t445.length co40], .int .i64 1] ?_; (with_reducible refine (laws_markDisk.calls kj69 (fun k_ => some k_ = (.slice Ao35 t442.length co35 : Value).ownBlock) (.slice Ao35 t442.length co35) t442 (fun k_ => some k_ = (.slice Ao40 t445.length co40 : Value).ownBlock) (.slice Ao40 t445.length co40) t445 1 t461 t462 t463 w _ ?side1 ?side2 ?side3 A72.out).mono ?_); (case side1 => repeat (first | (with_reducible first | exact HB.out | apply below_alloc | apply pw_below_drewN | apply below_drew1 | refine below_set ?_ GE420.out | refine below_set ?_ GE434.out | refine below_set ?_ GE441.out | refine below_set ?_ GE448.out) | exact HB.out)); (case side2 => exact Kd.R_tight rfl HO_449000.out); (case side3 => exact Kd.R_tight rfl HO_449001.out); rintro e w79 ⟨rfl, hy0, hy1, hb, hkp⟩; refine ⟨_, rfl, ?_⟩; have n_ := And.intro (Aside0.mk (Kd.R_mono (ok' := fun k_ => some k_ ≠ (.slice Ao28 t458.length co28 : Value).ownBlock ∧ some k_ ≠ (.slice Ao35 t442.length co35 : Value).ownBlock) (Kd.R_keptB ((Kd.R_apart' HO_435000.out (Kd.R_typed HO_449001.out) (by decide))) hkp (fun k_ hk_ hs_ => Or.elim hs_ (fun e_ => (hk_.1.2) e_) (fun e_ => (hk_.2) e_))) (fun k_ hk_ => ⟨hk_.1.1.1, hk_.1.1.2⟩))) (And.intro (Aside0.mk (Kd.R_mono (ok' := fun k_ => some k_ ≠ (.slice Ao32 t459.length co32 : Value).ownBlock ∧ some k_ ≠ (.slice Ao40 t445.length co40 : Value).ownBlock) (Kd.R_keptB ((Kd.R_apart' HO_435001.out (Kd.R_typed HO_449000.out) (by decide))) hkp (fun k_ hk_ hs_ => Or.elim hs_ (fun e_ => (hk_.2) e_) (fun e_ => (hk_.1.2) e_))) (fun k_ hk_ => ⟨hk_.1.1.1, hk_.1.1.2⟩))) (And.intro (Aside0.mk (Kd.R_mono (ok' := fun k_ => some k_ ≠ (.slice Ao21 t428.length co21 : Value).ownBlock ∧ some k_ ≠ (.slice Ao35 t442.length co35 : Value).ownBlock) (Kd.R_keptB ((Kd.R_apart' HO_442000.out (Kd.R_typed HO_449001.out) (by decide))) hkp (fun k_ hk_ hs_ => Or.elim hs_ (fun e_ => (hk_.1.2) e_) (fun e_ => (hk_.2) e_))) (fun k_ hk_ => ⟨hk_.1.1.1, hk_.1.1.2⟩))) (And.intro (Aside0.mk (Kd.R_mono (ok' := fun k_ => some k_ ≠ (.slice Ao24 t431.length co24 : Value).ownBlock ∧ some k_ ≠ (.slice Ao40 t445.length co40 : Value).ownBlock) (Kd.R_keptB ((Kd.R_apart' HO_442001.out (Kd.R_typed HO_449000.out) (by decide))) hkp (fun k_ hk_ hs_ => Or.elim hs_ (fun e_ => (hk_.2) e_) (fun e_ => (hk_.1.2) e_))) (fun k_ hk_ => ⟨hk_.1.1.1, hk_.1.1.2⟩))) (And.intro (Aside0.mk (Kd.R_reok rfl hy0 (fun k_ e_ => HO_449000.out.1 k_ e_))) (And.intro (Aside0.mk (Kd.R_reok rfl hy1 (fun k_ e_ => HO_449001.out.1 k_ e_))) (And.intro (Aside0.mk (blk_kept (kP BK420) hkp (fun hs_ => Or.elim hs_ (fun e_ => (fun e_ => (Kd.R_ne HO_449000.out BK420.out (by decide)) e_) e_) (fun e_ => (fun e_ => (Kd.R_ne HO_449001.out BK420.out (by decide)) e_) e_)))) (And.intro (Aside0.mk (blk_kept (kP BK434) hkp (fun hs_ => Or.elim hs_ (fun e_ => (fun e_ => (Kd.R_ne HO_449000.out BK434.out (by decide)) e_) e_) (fun e_ => (fun e_ => (Kd.R_ne HO_449001.out BK434.out (by decide)) e_) e_)))) (And.intro (Aside0.mk (blk_kept (kP BK441) hkp (fun hs_ => Or.elim hs_ (fun e_ => (fun e_ => (Kd.R_ne HO_449000.out BK441.out (by decide)) e_) e_) (fun e_ => (fun e_ => (Kd.R_ne HO_449001.out BK441.out (by decide)) e_) e_)))) (And.intro (Aside0.mk (blk_kept (kP BK448) hkp (fun hs_ => Or.elim hs_ (fun e_ => (fun e_ => (Kd.R_ne HO_449000.out BK448.out (by decide)) e_) e_) (fun e_ => (fun e_ => (Kd.R_ne HO_449001.out BK448.out (by decide)) e_) e_)))) (Aside0.mk (hb))))))))))); clear HO_435000 HO_435001 HO_442000 HO_442001 HO_449000 HO_449001 BK420 BK434 BK441 BK448 HB; obtain ⟨HO_435000, HO_435001, HO_442000, HO_442001, HO_449000, HO_449001, BK420, BK434, BK441, BK448, HB⟩ := n_; (try clear hb hkp hy0 hy1); have hcz80_0 := cZ0 BK448; have hcz80_1 := cZ1 BK448; have hfz80_0 := blk_frozen BK448.out 0; have hfz80_1 := blk_frozen BK448.out 1) | ((with_reducible refine gate_callee (f := 30) rfl ?_); refine goesL_ (some 52) rfl rfl Try.func30 (by kernel_rfl) rfl #[.agg #[.slice Ao35 t462.length co35, .slice Ao40 t463.length co40], .int .i64 1] rfl (by (try simp only [List.map_toArray, List.map_cons, List.map_nil]); first | done | (rw [show t462.length = t442.length from (Kd.R_reads' HO_449000.out).1.symm, show t463.length = t445.length from (Kd.R_reads' HO_449001.out).1.symm] <;> rfl) | rfl | (simp only [List.length_drop, List.length_take]; rfl)) ?_; (with_reducible refine (laws_heldDisk.calls kj69 _ _ t462 _ _ t463 1 t464 _ ?side1 ?side2 ?side3 ?side4 A73.out).mono ?_); (case side1 => exact cR HO_449000); (case side2 => rw [show t462.length = t442.length from (Kd.R_reads' HO_449000.out).1.symm]; exact (Kd.R_reads' HO_449000.out).2.1); (case side3 => exact cR HO_449001); (case side4 => rw [show t463.length = t445.length from (Kd.R_reads' HO_449001.out).1.symm]; exact (Kd.R_reads' HO_449001.out).2.1); rintro e w81 ⟨rfl, hb⟩; refine ⟨_, rfl, ?_⟩; have n_ := And.intro (rB HO_435000 hb) (And.intro (rB HO_435001 hb) (And.intro (rB HO_442000 hb) (And.intro (rB HO_442001 hb) (And.intro (rB HO_449000 hb) (And.intro (rB HO_449001 hb) (And.intro (kB BK420 hb) (And.intro (kB BK434 hb) (And.intro (kB BK441 hb) (And.intro (kB BK448 hb) (sB HB hb)))))))))); clear HO_435000 HO_435001 HO_442000 HO_442001 HO_449000 HO_449001 BK420 BK434 BK441 BK448 HB; obtain ⟨HO_435000, HO_435001, HO_442000, HO_442001, HO_449000, HO_449001, BK420, BK434, BK441, BK448, HB⟩ := n_; (try clear hb)))
           (try simp only [Act.put, List.setIfInBounds_toArray, List.set_cons_zero, List.set_cons_succ])
           go_cut [] (fun wc => ∃ (kq : Nat), Aside0 (laws_FnExactRecover.j5 kq a1 t461 t464 l0_0 l0_1 t428 t431 t462 t463 = some r) ∧ Aside0 (kq ≤ kj69) ∧ Aside0 (Kd.R Kd.string 9 wc w.heap.size (fun k_ => some k_ ≠ ((.slice Ao28 t458.length co28) : Value).ownBlock ∧ some k_ ≠ ((.slice Ao35 t442.length co35) : Value).ownBlock) (.slice Ao21 t428.length co21) t428) ∧ Aside0 (Kd.R k65 65 wc w.heap.size (fun k_ => some k_ ≠ ((.slice Ao32 t459.length co32) : Value).ownBlock ∧ some k_ ≠ ((.slice Ao40 t445.length co40) : Value).ownBlock) (.slice Ao24 t431.length co24) t431) ∧ Aside0 (Kd.R Kd.string 9 wc w.heap.size (fun k_ => some k_ ≠ ((.slice Ao21 t428.length co21) : Value).ownBlock ∧ some k_ ≠ ((.slice Ao35 t442.length co35) : Value).ownBlock) (.slice Ao28 t458.length co28) t458) ∧ Aside0 (Kd.R k65 65 wc w.heap.size (fun k_ => some k_ ≠ ((.slice Ao24 t431.length co24) : Value).ownBlock ∧ some k_ ≠ ((.slice Ao40 t445.length co40) : Value).ownBlock) (.slice Ao32 t459.length co32) t459) ∧ Aside0 (Kd.R Kd.string 9 wc w.heap.size (fun k_ => some k_ ≠ ((.slice Ao21 t428.length co21) : Value).ownBlock ∧ some k_ ≠ ((.slice Ao28 t458.length co28) : Value).ownBlock) (.slice Ao35 t442.length co35) t462) ∧ Aside0 (Kd.R k65 65 wc w.heap.size (fun k_ => some k_ ≠ ((.slice Ao24 t431.length co24) : Value).ownBlock ∧ some k_ ≠ ((.slice Ao32 t459.length co32) : Value).ownBlock) (.slice Ao40 t445.length co40) t463) ∧ Aside0 (wc.heap[gb420]? = some (.cells #[(.slice A0_0 l0_0.length c0_0), (.slice A0_1 l0_1.length c0_1)] 25 (0, 0))) ∧ Aside0 (wc.heap[gb434]? = some (.cells #[(.slice Ao21 t428.length co21), (.slice Ao24 t431.length co24)] 30 (0, 0))) ∧ Aside0 (wc.heap[gb441]? = some (.cells #[(.slice Ao28 t458.length co28), (.slice Ao32 t459.length co32)] 30 (0, 0))) ∧ Aside0 (wc.heap[gb448]? = some (.cells #[(.slice Ao35 t442.length co35), (.slice Ao40 t445.length co40)] 30 (0, 0))) ∧ Aside0 (Below w.heap.size w wc))
           case first =>
            have H := HC74.out
            clear HC74
            by_cases c82 : t464 < 0
            ·rw [if_pos c82] at H
             have c82b0 : decide (t464 < 0) = true := decide_eq_true c82
             clear c82
             (first | rw [c82b0] | (simp only [i64_w, i32_w]; rw [c82b0]) | rw [c82b1] | rw [c82b2] | skip)
             obtain rfl := Option.some.inj H
             go_wp2
             go_ret
             exact ⟨eW, bB⟩
            ·rw [if_neg c82] at H
             have c82b0 : decide (t464 < 0) = false := decide_eq_false c82
             clear c82
             (first | rw [c82b0] | (simp only [i64_w, i32_w]; rw [c82b0]) | rw [c82b1] | rw [c82b2] | skip)
             have H' := Aside0.mk H
             clear H
             go_wp2
             go_meet
             case rel => exact ⟨_, H', ⟨by have := HJ3.out; have := HJ13.out; have := HJ45.out; have := HJ53.out; have := HJ69.out; first | omega | exact Nat.le_refl _⟩, ⟨by (try simp only [hl442000_53]); (try simp only [hl442001_53]); (with_reducible repeat (first | apply Kd.R_alloc | apply Kd.R_drewN | apply Kd.R_drew)); exact HO_435000.out⟩, ⟨by (try simp only [hl442000_53]); (try simp only [hl442001_53]); (with_reducible repeat (first | apply Kd.R_alloc | apply Kd.R_drewN | apply Kd.R_drew)); exact HO_435001.out⟩, ⟨by (try simp only [hl442000_53]); (try simp only [hl442001_53]); (with_reducible repeat (first | apply Kd.R_alloc | apply Kd.R_drewN | apply Kd.R_drew)); exact HO_442000.out⟩, ⟨by (try simp only [hl442000_53]); (try simp only [hl442001_53]); (with_reducible repeat (first | apply Kd.R_alloc | apply Kd.R_drewN | apply Kd.R_drew)); exact HO_442001.out⟩, ⟨by (try simp only [hl442000_53]); (try simp only [hl442001_53]); (with_reducible repeat (first | apply Kd.R_alloc | apply Kd.R_drewN | apply Kd.R_drew)); exact HO_449000.out⟩, ⟨by (try simp only [hl442000_53]); (try simp only [hl442001_53]); (with_reducible repeat (first | apply Kd.R_alloc | apply Kd.R_drewN | apply Kd.R_drew)); exact HO_449001.out⟩, ⟨by (try simp only [hl442000_53]); (try simp only [hl442001_53]); (with_reducible repeat (first | refine blk_drewN ?_ _ | refine blk_drew ?_ | refine blk_alloc ?_ _)); exact BK420.out⟩, ⟨by (try simp only [hl442000_53]); (try simp only [hl442001_53]); (with_reducible repeat (first | refine blk_drewN ?_ _ | refine blk_drew ?_ | refine blk_alloc ?_ _)); exact BK434.out⟩, ⟨by (try simp only [hl442000_53]); (try simp only [hl442001_53]); (with_reducible repeat (first | refine blk_drewN ?_ _ | refine blk_drew ?_ | refine blk_alloc ?_ _)); exact BK441.out⟩, ⟨by (try simp only [hl442000_53]); (try simp only [hl442001_53]); (with_reducible repeat (first | refine blk_drewN ?_ _ | refine blk_drew ?_ | refine blk_alloc ?_ _)); exact BK448.out⟩, ⟨bB⟩⟩
           case rest =>
            clear HC74
            try clear c1
            try clear c2
            try clear p2
            try clear c3
            try clear c4
            try clear c5
            try clear c6
            try clear c7
            try clear c8
            try clear c8b0
            try clear c8b1
            try clear c8b2
            try clear c10
            try clear c15
            try clear c17
            try clear c19
            try clear c22
            try clear c25
            try clear c29
            try clear c30
            try clear c36
            try clear c37
            try clear c38
            try clear c43
            try clear c44
            try clear c45
            try clear c52
            try clear c55
            try clear c56
            try clear c57
            try clear c60
            try clear c60b0
            try clear c60b1
            try clear c60b2
            try clear c62
            try clear c63
            try clear c64
            try clear c66
            try clear c67
            try clear c71
            try clear c75
            try clear c76
            try clear c77
            try clear c82
            try clear c82b0
            try clear c82b1
            try clear c82b2
            try clear hcz15_0
            try clear hcz15_1
            try clear hcz23_0
            try clear hcz23_1
            try clear hcz25_0
            try clear hcz25_1
            try clear hcz31_0
            try clear hcz31_1
            try clear hcz39_0
            try clear hcz39_1
            try clear hcz41_0
            try clear hcz41_1
            try clear hcz58_0
            try clear hcz58_1
            try clear hcz65_0
            try clear hcz65_1
            try clear hcz68_0
            try clear hcz68_1
            try clear hcz6_0
            try clear hcz6_1
            try clear hcz78_0
            try clear hcz78_1
            try clear hcz80_0
            try clear hcz80_1
            try clear hfz15_0
            try clear hfz15_1
            try clear hfz23_0
            try clear hfz23_1
            try clear hfz25_0
            try clear hfz25_1
            try clear hfz31_0
            try clear hfz31_1
            try clear hfz39_0
            try clear hfz39_1
            try clear hfz41_0
            try clear hfz41_1
            try clear hfz58_0
            try clear hfz58_1
            try clear hfz65_0
            try clear hfz65_1
            try clear hfz68_0
            try clear hfz68_1
            try clear hfz6_0
            try clear hfz6_1
            try clear hfz78_0
            try clear hfz78_1
            try clear hfz80_0
            try clear hfz80_1
            try clear p2
            obtain ⟨kq, HA, HJ73, HO_435000, HO_435001, HO_442000, HO_442001, HO_449000, HO_449001, BK420, BK434, BK441, BK448, HB⟩ := hcut
            have hl449000_73 := (Kd.R_reads' HO_449000.out).1
            rw [hl449000_73] at HO_449000
            (try simp only [hl449000_73])
            (try simp only [hl449000_73] at BK420)
            (try simp only [hl449000_73] at BK434)
            (try simp only [hl449000_73] at BK441)
            (try simp only [hl449000_73] at BK448)
            (try simp only [hl449000_73] at HO_435000)
            (try simp only [hl449000_73] at HO_435001)
            (try simp only [hl449000_73] at HO_442000)
            (try simp only [hl449000_73] at HO_442001)
            (try simp only [hl449000_73] at HO_449001)
            have hl449001_73 := (Kd.R_reads' HO_449001.out).1
            rw [hl449001_73] at HO_449001
            (try simp only [hl449001_73])
            (try simp only [hl449001_73] at BK420)
            (try simp only [hl449001_73] at BK434)
            (try simp only [hl449001_73] at BK441)
            (try simp only [hl449001_73] at BK448)
            (try simp only [hl449001_73] at HO_435000)
            (try simp only [hl449001_73] at HO_435001)
            (try simp only [hl449001_73] at HO_442000)
            (try simp only [hl449001_73] at HO_442001)
            (try simp only [hl449001_73] at HO_449000)
            cases kq with
            | zero => exact absurd HA.out (by simp [laws_FnExactRecover.j5])
            | succ kj73 =>
             have H := HA.out
             clear HA
             simp only [laws_FnExactRecover.j5] at H
             have HC83 := Aside0.mk H
             clear H
             go_upto_if 57 with (fail)
             go_cut [] (fun wc => ∃ (kq : Nat), Aside0 (laws_FnExactRecover.j6 kq a1 t461 l0_0 l0_1 t428 t431 t462 t463 = some r) ∧ Aside0 (kq ≤ kj73) ∧ Aside0 (Kd.R Kd.string 9 wc w.heap.size (fun k_ => some k_ ≠ ((.slice Ao28 t458.length co28) : Value).ownBlock ∧ some k_ ≠ ((.slice Ao35 t462.length co35) : Value).ownBlock) (.slice Ao21 t428.length co21) t428) ∧ Aside0 (Kd.R k65 65 wc w.heap.size (fun k_ => some k_ ≠ ((.slice Ao32 t459.length co32) : Value).ownBlock ∧ some k_ ≠ ((.slice Ao40 t463.length co40) : Value).ownBlock) (.slice Ao24 t431.length co24) t431) ∧ Aside0 (Kd.R Kd.string 9 wc w.heap.size (fun k_ => some k_ ≠ ((.slice Ao21 t428.length co21) : Value).ownBlock ∧ some k_ ≠ ((.slice Ao35 t462.length co35) : Value).ownBlock) (.slice Ao28 t458.length co28) t458) ∧ Aside0 (Kd.R k65 65 wc w.heap.size (fun k_ => some k_ ≠ ((.slice Ao24 t431.length co24) : Value).ownBlock ∧ some k_ ≠ ((.slice Ao40 t463.length co40) : Value).ownBlock) (.slice Ao32 t459.length co32) t459) ∧ Aside0 (Kd.R Kd.string 9 wc w.heap.size (fun k_ => some k_ ≠ ((.slice Ao21 t428.length co21) : Value).ownBlock ∧ some k_ ≠ ((.slice Ao28 t458.length co28) : Value).ownBlock) (.slice Ao35 t462.length co35) t462) ∧ Aside0 (Kd.R k65 65 wc w.heap.size (fun k_ => some k_ ≠ ((.slice Ao24 t431.length co24) : Value).ownBlock ∧ some k_ ≠ ((.slice Ao32 t459.length co32) : Value).ownBlock) (.slice Ao40 t463.length co40) t463) ∧ Aside0 (wc.heap[gb420]? = some (.cells #[(.slice A0_0 l0_0.length c0_0), (.slice A0_1 l0_1.length c0_1)] 25 (0, 0))) ∧ Aside0 (wc.heap[gb434]? = some (.cells #[(.slice Ao21 t428.length co21), (.slice Ao24 t431.length co24)] 30 (0, 0))) ∧ Aside0 (wc.heap[gb441]? = some (.cells #[(.slice Ao28 t458.length co28), (.slice Ao32 t459.length co32)] 30 (0, 0))) ∧ Aside0 (wc.heap[gb448]? = some (.cells #[(.slice Ao35 t462.length co35), (.slice Ao40 t463.length co40)] 30 (0, 0))) ∧ Aside0 (Below w.heap.size w wc))
             case first =>
              have H := HC83.out
              clear HC83
              by_cases c84 : t464 = t461
              ·rw [if_pos c84] at H
               have c84b0 : (t464 == t461) = true := beq_iff_eq.mpr c84
               have c84b1 : (t464 != t461) = false := bne_eq_false_iff_eq.mpr c84
               clear c84
               (first | rw [c84b0] | (simp only [i64_w, i32_w]; rw [c84b0]) | rw [c84b1] | rw [c84b2] | skip)
               have H' := Aside0.mk H
               clear H
               go_wp2
               go_meet
               case rel => exact ⟨_, H', ⟨by have := HJ3.out; have := HJ13.out; have := HJ45.out; have := HJ53.out; have := HJ69.out; have := HJ73.out; first | omega | exact Nat.le_refl _⟩, ⟨by (try simp only [hl442000_53]); (try simp only [hl442001_53]); (try simp only [hl449000_73]); (try simp only [hl449001_73]); (with_reducible repeat (first | apply Kd.R_alloc | apply Kd.R_drewN | apply Kd.R_drew)); exact HO_435000.out⟩, ⟨by (try simp only [hl442000_53]); (try simp only [hl442001_53]); (try simp only [hl449000_73]); (try simp only [hl449001_73]); (with_reducible repeat (first | apply Kd.R_alloc | apply Kd.R_drewN | apply Kd.R_drew)); exact HO_435001.out⟩, ⟨by (try simp only [hl442000_53]); (try simp only [hl442001_53]); (try simp only [hl449000_73]); (try simp only [hl449001_73]); (with_reducible repeat (first | apply Kd.R_alloc | apply Kd.R_drewN | apply Kd.R_drew)); exact HO_442000.out⟩, ⟨by (try simp only [hl442000_53]); (try simp only [hl442001_53]); (try simp only [hl449000_73]); (try simp only [hl449001_73]); (with_reducible repeat (first | apply Kd.R_alloc | apply Kd.R_drewN | apply Kd.R_drew)); exact HO_442001.out⟩, ⟨by (try simp only [hl442000_53]); (try simp only [hl442001_53]); (try simp only [hl449000_73]); (try simp only [hl449001_73]); (with_reducible repeat (first | apply Kd.R_alloc | apply Kd.R_drewN | apply Kd.R_drew)); exact HO_449000.out⟩, ⟨by (try simp only [hl442000_53]); (try simp only [hl442001_53]); (try simp only [hl449000_73]); (try simp only [hl449001_73]); (with_reducible repeat (first | apply Kd.R_alloc | apply Kd.R_drewN | apply Kd.R_drew)); exact HO_449001.out⟩, ⟨by (try simp only [hl442000_53]); (try simp only [hl442001_53]); (try simp only [hl449000_73]); (try simp only [hl449001_73]); (with_reducible repeat (first | refine blk_drewN ?_ _ | refine blk_drew ?_ | refine blk_alloc ?_ _)); exact BK420.out⟩, ⟨by (try simp only [hl442000_53]); (try simp only [hl442001_53]); (try simp only [hl449000_73]); (try simp only [hl449001_73]); (with_reducible repeat (first | refine blk_drewN ?_ _ | refine blk_drew ?_ | refine blk_alloc ?_ _)); exact BK434.out⟩, ⟨by (try simp only [hl442000_53]); (try simp only [hl442001_53]); (try simp only [hl449000_73]); (try simp only [hl449001_73]); (with_reducible repeat (first | refine blk_drewN ?_ _ | refine blk_drew ?_ | refine blk_alloc ?_ _)); exact BK441.out⟩, ⟨by (try simp only [hl442000_53]); (try simp only [hl442001_53]); (try simp only [hl449000_73]); (try simp only [hl449001_73]); (with_reducible repeat (first | refine blk_drewN ?_ _ | refine blk_drew ?_ | refine blk_alloc ?_ _)); exact BK448.out⟩, ⟨bB⟩⟩
              ·rw [if_neg c84] at H
               have c84b0 : (t464 == t461) = false := beq_eq_false_iff_ne.mpr c84
               have c84b1 : (t464 != t461) = true := bne_iff_ne.mpr c84
               (first | rw [c84b0] | (simp only [i64_w, i32_w]; rw [c84b0]) | rw [c84b1] | rw [c84b2] | skip)
               obtain rfl := Option.some.inj H
               go_wp2
               go_ret
               exact ⟨eW, bB⟩
             case rest =>
              clear HC83
              try clear c1
              try clear c2
              try clear p2
              try clear c3
              try clear c4
              try clear c5
              try clear c6
              try clear c7
              try clear c8
              try clear c8b0
              try clear c8b1
              try clear c8b2
              try clear c10
              try clear c15
              try clear c17
              try clear c19
              try clear c22
              try clear c25
              try clear c29
              try clear c30
              try clear c36
              try clear c37
              try clear c38
              try clear c43
              try clear c44
              try clear c45
              try clear c52
              try clear c55
              try clear c56
              try clear c57
              try clear c60
              try clear c60b0
              try clear c60b1
              try clear c60b2
              try clear c62
              try clear c63
              try clear c64
              try clear c66
              try clear c67
              try clear c71
              try clear c75
              try clear c76
              try clear c77
              try clear c82
              try clear c82b0
              try clear c82b1
              try clear c82b2
              try clear c84
              try clear c84b0
              try clear c84b1
              try clear c84b2
              try clear hcz15_0
              try clear hcz15_1
              try clear hcz23_0
              try clear hcz23_1
              try clear hcz25_0
              try clear hcz25_1
              try clear hcz31_0
              try clear hcz31_1
              try clear hcz39_0
              try clear hcz39_1
              try clear hcz41_0
              try clear hcz41_1
              try clear hcz58_0
              try clear hcz58_1
              try clear hcz65_0
              try clear hcz65_1
              try clear hcz68_0
              try clear hcz68_1
              try clear hcz6_0
              try clear hcz6_1
              try clear hcz78_0
              try clear hcz78_1
              try clear hcz80_0
              try clear hcz80_1
              try clear hfz15_0
              try clear hfz15_1
              try clear hfz23_0
              try clear hfz23_1
              try clear hfz25_0
              try clear hfz25_1
              try clear hfz31_0
              try clear hfz31_1
              try clear hfz39_0
              try clear hfz39_1
              try clear hfz41_0
              try clear hfz41_1
              try clear hfz58_0
              try clear hfz58_1
              try clear hfz65_0
              try clear hfz65_1
              try clear hfz68_0
              try clear hfz68_1
              try clear hfz6_0
              try clear hfz6_1
              try clear hfz78_0
              try clear hfz78_1
              try clear hfz80_0
              try clear hfz80_1
              try clear p2
              obtain ⟨kq, HA, HJ82, HO_435000, HO_435001, HO_442000, HO_442001, HO_449000, HO_449001, BK420, BK434, BK441, BK448, HB⟩ := hcut
              cases kq with
              | zero => exact absurd HA.out (by simp [laws_FnExactRecover.j6])
              | succ kj82 =>
               have H := HA.out
               clear HA
               simp only [laws_FnExactRecover.j6] at H
               replace H := Option.bind_eq_some_iff.mp H
               obtain ⟨⟨t465, t468⟩, A850, H⟩ := H
               try dsimp only at H
               have A85 := Aside0.mk A850
               clear A850
               replace H := Option.bind_eq_some_iff.mp H
               obtain ⟨⟨t471, t474⟩, A860, H⟩ := H
               try dsimp only at H
               have A86 := Aside0.mk A860
               clear A860
               replace H := Option.bind_eq_some_iff.mp H
               obtain ⟨t478, A870, H⟩ := H
               try dsimp only at H
               have A87 := Aside0.mk A870
               clear A870
               have HC88 := Aside0.mk H
               clear H
               have hnb89 := NB420_434.out
               have hnc89 := NB434_420.out
               have hnb90 := NB420_441.out
               have hnc90 := NB441_420.out
               have hnb91 := NB420_448.out
               have hnc91 := NB448_420.out
               have hcz92_0 := cZ0 BK420
               have hcz92_1 := cZ1 BK420
               have hfz92_0 := blk_frozen BK420.out 0
               have hfz92_1 := blk_frozen BK420.out 1
               go_upto_if 65 with (first | ((with_reducible refine gate_callee (f := 17) rfl ?_); refine gL (some 59) Try.func17 #[.agg #[.slice A0_0 l0_0.length c0_0, .slice A0_1 l0_1.length c0_1]] ?_; (with_reducible refine (laws_toDisk.calls kj82 _ _ l0_0 _ _ l0_1 t465 t468 _ ?side1 ?side2 ?side3 ?side4 A85.out).mono ?_); (case side1 => exact cS HR0_0 HB); (case side2 => exact HC0_0.out); (case side3 => exact cS HR0_1 HB); (case side4 => exact HC0_1.out); rintro e w93 ⟨v466, v469, rfl, ho0, ho1, hb⟩; refine ⟨_, rfl, ?_⟩; have n_ := And.intro (eR HO_435000 ho0 hb) (And.intro (eR HO_435001 ho1 hb) (And.intro (eR HO_442000 ho0 hb) (And.intro (eR HO_442001 ho1 hb) (And.intro (eR HO_449000 ho0 hb) (And.intro (eR HO_449001 ho1 hb) (And.intro (Aside0.mk (Kd.R_lower (Kd.R_new' (Kd.R_new' (Kd.R_new' ho0 (rL HO_435000)) (rL HO_442000)) (rL HO_449000)) (zB HB))) (And.intro (Aside0.mk (Kd.R_lower (Kd.R_new' (Kd.R_new' (Kd.R_new' ho1 (rL HO_435001)) (rL HO_442001)) (rL HO_449001)) (zB HB))) (And.intro (kB BK420 hb) (And.intro (kB BK434 hb) (And.intro (kB BK441 hb) (And.intro (kB BK448 hb) (sB HB hb)))))))))))); clear HO_435000 HO_435001 HO_442000 HO_442001 HO_449000 HO_449001 BK420 BK434 BK441 BK448 HB; obtain ⟨HO_435000, HO_435001, HO_442000, HO_442001, HO_449000, HO_449001, HO467, HO470, BK420, BK434, BK441, BK448, HB⟩ := n_; (try clear hb ho0 ho1); obtain ⟨Ao94, co94, eo94⟩ := Kd.R_slice HO467.out; subst eo94; obtain ⟨Ao95, co95, eo95⟩ := Kd.R_slice HO470.out; subst eo95) | ((with_reducible refine gate_callee (f := 45) rfl ?_); refine gL (some 61) Try.func45 #[.agg #[.slice Ao94 t465.length co94, .slice Ao95 t468.length co95], .int .i64 a1] ?_; (with_reducible refine (impl_Recover.calls kj82 _ _ t465 _ _ t468 a1 t471 t474 _ ?side1 ?side2 ?side3 ?side4 A86.out).mono ?_); (case side1 => exact cR HO467); (case side2 => exact (Kd.R_reads' HO467.out).2.1); (case side3 => exact cR HO470); (case side4 => exact (Kd.R_reads' HO470.out).2.1); rintro e w96 ⟨v472, v475, rfl, ho0, ho1, hb⟩; refine ⟨_, rfl, ?_⟩; have n_ := And.intro (eR HO_435000 ho0 hb) (And.intro (eR HO_435001 ho1 hb) (And.intro (eR HO_442000 ho0 hb) (And.intro (eR HO_442001 ho1 hb) (And.intro (eR HO_449000 ho0 hb) (And.intro (eR HO_449001 ho1 hb) (And.intro (eR HO467 ho0 hb) (And.intro (eR HO470 ho1 hb) (And.intro (Aside0.mk (Kd.R_lower (Kd.R_new' (Kd.R_new' (Kd.R_new' (Kd.R_new' ho0 (rL HO_435000)) (rL HO_442000)) (rL HO_449000)) (rL HO467)) (zB HB))) (And.intro (Aside0.mk (Kd.R_lower (Kd.R_new' (Kd.R_new' (Kd.R_new' (Kd.R_new' ho1 (rL HO_435001)) (rL HO_442001)) (rL HO_449001)) (rL HO470)) (zB HB))) (And.intro (kB BK420 hb) (And.intro (kB BK434 hb) (And.intro (kB BK441 hb) (And.intro (kB BK448 hb) (sB HB hb)))))))))))))); clear HO_435000 HO_435001 HO_442000 HO_442001 HO_449000 HO_449001 HO467 HO470 BK420 BK434 BK441 BK448 HB; obtain ⟨HO_435000, HO_435001, HO_442000, HO_442001, HO_449000, HO_449001, HO467, HO470, HO473, HO476, BK420, BK434, BK441, BK448, HB⟩ := n_; (try clear hb ho0 ho1)) | ((with_reducible refine gate_dst (N := 12) rfl ?_); refine bE 12 #[.slice none 0 0, .slice none 0 0] 30 ?_; intro gb477 hg w97 hbox hb; have n_ := And.intro (rB HO_435000 hb) (And.intro (rB HO_435001 hb) (And.intro (rB HO_442000 hb) (And.intro (rB HO_442001 hb) (And.intro (rB HO_449000 hb) (And.intro (rB HO_449001 hb) (And.intro (rB HO467 hb) (And.intro (rB HO470 hb) (And.intro (rB HO473 hb) (And.intro (rB HO476 hb) (And.intro (kB BK420 hb) (And.intro (kB BK434 hb) (And.intro (kB BK441 hb) (And.intro (kB BK448 hb) (And.intro (sB HB hb) (And.intro (Aside0.mk hbox) (And.intro (gE HB hg) (And.intro (gE HB hg) (And.intro (nL BK420 hg) (And.intro (nG BK420 hg) (And.intro (nL BK434 hg) (And.intro (nG BK434 hg) (And.intro (nL BK441 hg) (And.intro (nG BK441 hg) (And.intro (nL BK448 hg) (nG BK448 hg))))))))))))))))))))))))); clear HO_435000 HO_435001 HO_442000 HO_442001 HO_449000 HO_449001 HO467 HO470 HO473 HO476 BK420 BK434 BK441 BK448 HB; obtain ⟨HO_435000, HO_435001, HO_442000, HO_442001, HO_449000, HO_449001, HO467, HO470, HO473, HO476, BK420, BK434, BK441, BK448, HB, BK477, GW477, GE477, NB420_477, NB477_420, NB434_477, NB477_434, NB441_477, NB477_441, NB448_477, NB477_448⟩ := n_; (try clear hb hbox hg); obtain ⟨Ao98, co98, eo98⟩ := Kd.R_slice HO473.out; subst eo98; have hnb99 := NB477_420.out; have hnc99 := NB420_477.out; have hnb100 := NB477_434.out; have hnc100 := NB434_477.out; have hnb101 := NB477_441.out; have hnc101 := NB441_477.out; have hnb102 := NB477_448.out; have hnc102 := NB448_477.out; have hcz103_0 := cZ0 BK477; have hcz103_1 := cZ1 BK477; have hfz103_0 := blk_frozen BK477.out 0; have hfz103_1 := blk_frozen BK477.out 1; obtain ⟨Ao104, co104, eo104⟩ := Kd.R_slice HO476.out; subst eo104; have hnb105 := NB434_441.out; have hnc105 := NB441_434.out; have hnb106 := NB434_448.out; have hnc106 := NB448_434.out; have hcz107_0 := cZ0 BK434; have hcz107_1 := cZ1 BK434; have hfz107_0 := blk_frozen BK434.out 0; have hfz107_1 := blk_frozen BK434.out 1) | ((with_reducible refine gate_callee (f := 19) rfl ?_); refine gL (some 64) Try.func19 #[.agg #[.slice Ao98 t471.length co98, .slice Ao104 t474.length co104], .agg #[.slice Ao21 t428.length co21, .slice Ao24 t431.length co24]] ?_; (with_reducible refine (laws_eqDisk.calls kj82 _ _ t471 _ _ t474 _ _ t428 _ _ t431 t478 _ ?side1 ?side2 ?side3 ?side4 ?side5 ?side6 ?side7 ?side8 A87.out).mono ?_); (case side1 => refine (Kd.R_reads' (e := 9) (base := w.heap.size) (ok := fun k_ => ((((True ∧ some k_ ≠ (.slice Ao21 t428.length co21 : Value).ownBlock) ∧ some k_ ≠ (.slice Ao28 t458.length co28 : Value).ownBlock) ∧ some k_ ≠ (.slice Ao35 t462.length co35 : Value).ownBlock) ∧ some k_ ≠ (.slice Ao94 t465.length co94 : Value).ownBlock)) (n := t471.length) (c := co98) ?_).2.2; exact (rP (Kd.R_mono (Kd.R_far (p := ⟨gb477, 1, none⟩) (Kd.R_far (p := ⟨gb477, 0, none⟩) (Kd.R_types HO473.out BK477.out (by decide)) (fun _ hk => hk.2) (.slice Ao98 t471.length co98)) (fun _ hk => hk.2) (.slice Ao104 t474.length co104)) (fun _ h_ => h_.1)))); (case side2 => exact (Kd.R_reads' HO473.out).2.1); (case side3 => refine (Kd.R_reads' (e := 65) (base := w.heap.size) (ok := fun k_ => ((((True ∧ some k_ ≠ (.slice Ao24 t431.length co24 : Value).ownBlock) ∧ some k_ ≠ (.slice Ao32 t459.length co32 : Value).ownBlock) ∧ some k_ ≠ (.slice Ao40 t463.length co40 : Value).ownBlock) ∧ some k_ ≠ (.slice Ao95 t468.length co95 : Value).ownBlock)) (n := t474.length) (c := co104) ?_).2.2; exact (rP (Kd.R_mono (Kd.R_far (p := ⟨gb477, 1, none⟩) (Kd.R_far (p := ⟨gb477, 0, none⟩) (Kd.R_types HO476.out BK477.out (by decide)) (fun _ hk => hk.2) (.slice Ao98 t471.length co98)) (fun _ hk => hk.2) (.slice Ao104 t474.length co104)) (fun _ h_ => h_.1)))); (case side4 => exact (Kd.R_reads' HO476.out).2.1); (case side5 => refine (Kd.R_reads' (e := 9) (base := w.heap.size) (ok := fun k_ => (((some k_ ≠ (.slice Ao28 t458.length co28 : Value).ownBlock ∧ some k_ ≠ (.slice Ao35 t462.length co35 : Value).ownBlock) ∧ some k_ ≠ (.slice Ao94 t465.length co94 : Value).ownBlock) ∧ some k_ ≠ (.slice Ao98 t471.length co98 : Value).ownBlock)) (n := t428.length) (c := co21) ?_).2.2; exact (rP (Kd.R_mono (Kd.R_far (p := ⟨gb477, 1, none⟩) (Kd.R_far (p := ⟨gb477, 0, none⟩) (Kd.R_types HO_435000.out BK477.out (by decide)) (fun _ hk => hk.2) (.slice Ao98 t471.length co98)) (fun _ hk => hk.2) (.slice Ao104 t474.length co104)) (fun _ h_ => h_.1)))); (case side6 => exact (Kd.R_reads' HO_435000.out).2.1); (case side7 => refine (Kd.R_reads' (e := 65) (base := w.heap.size) (ok := fun k_ => (((some k_ ≠ (.slice Ao32 t459.length co32 : Value).ownBlock ∧ some k_ ≠ (.slice Ao40 t463.length co40 : Value).ownBlock) ∧ some k_ ≠ (.slice Ao95 t468.length co95 : Value).ownBlock) ∧ some k_ ≠ (.slice Ao104 t474.length co104 : Value).ownBlock)) (n := t431.length) (c := co24) ?_).2.2; exact (rP (Kd.R_mono (Kd.R_far (p := ⟨gb477, 1, none⟩) (Kd.R_far (p := ⟨gb477, 0, none⟩) (Kd.R_types HO_435001.out BK477.out (by decide)) (fun _ hk => hk.2) (.slice Ao98 t471.length co98)) (fun _ hk => hk.2) (.slice Ao104 t474.length co104)) (fun _ h_ => h_.1)))); (case side8 => exact (Kd.R_reads' HO_435001.out).2.1); rintro e w108 ⟨rfl, hb⟩; refine ⟨_, rfl, ?_⟩; have n_ := And.intro (Aside0.mk (Kd.R_below (rP (Kd.R_mono (Kd.R_far (p := ⟨gb477, 1, none⟩) (Kd.R_far (p := ⟨gb477, 0, none⟩) (Kd.R_types HO_435000.out BK477.out (by decide)) (fun _ hk => hk.2) (.slice Ao98 t471.length co98)) (fun _ hk => hk.2) (.slice Ao104 t474.length co104)) (fun _ h_ => h_.1))) hb)) (And.intro (Aside0.mk (Kd.R_below (rP (Kd.R_mono (Kd.R_far (p := ⟨gb477, 1, none⟩) (Kd.R_far (p := ⟨gb477, 0, none⟩) (Kd.R_types HO_435001.out BK477.out (by decide)) (fun _ hk => hk.2) (.slice Ao98 t471.length co98)) (fun _ hk => hk.2) (.slice Ao104 t474.length co104)) (fun _ h_ => h_.1))) hb)) (And.intro (Aside0.mk (Kd.R_below (rP (Kd.R_mono (Kd.R_far (p := ⟨gb477, 1, none⟩) (Kd.R_far (p := ⟨gb477, 0, none⟩) (Kd.R_types HO_442000.out BK477.out (by decide)) (fun _ hk => hk.2) (.slice Ao98 t471.length co98)) (fun _ hk => hk.2) (.slice Ao104 t474.length co104)) (fun _ h_ => h_.1))) hb)) (And.intro (Aside0.mk (Kd.R_below (rP (Kd.R_mono (Kd.R_far (p := ⟨gb477, 1, none⟩) (Kd.R_far (p := ⟨gb477, 0, none⟩) (Kd.R_types HO_442001.out BK477.out (by decide)) (fun _ hk => hk.2) (.slice Ao98 t471.length co98)) (fun _ hk => hk.2) (.slice Ao104 t474.length co104)) (fun _ h_ => h_.1))) hb)) (And.intro (Aside0.mk (Kd.R_below (rP (Kd.R_mono (Kd.R_far (p := ⟨gb477, 1, none⟩) (Kd.R_far (p := ⟨gb477, 0, none⟩) (Kd.R_types HO_449000.out BK477.out (by decide)) (fun _ hk => hk.2) (.slice Ao98 t471.length co98)) (fun _ hk => hk.2) (.slice Ao104 t474.length co104)) (fun _ h_ => h_.1))) hb)) (And.intro (Aside0.mk (Kd.R_below (rP (Kd.R_mono (Kd.R_far (p := ⟨gb477, 1, none⟩) (Kd.R_far (p := ⟨gb477, 0, none⟩) (Kd.R_types HO_449001.out BK477.out (by decide)) (fun _ hk => hk.2) (.slice Ao98 t471.length co98)) (fun _ hk => hk.2) (.slice Ao104 t474.length co104)) (fun _ h_ => h_.1))) hb)) (And.intro (Aside0.mk (Kd.R_below (rP (Kd.R_mono (Kd.R_far (p := ⟨gb477, 1, none⟩) (Kd.R_far (p := ⟨gb477, 0, none⟩) (Kd.R_types HO467.out BK477.out (by decide)) (fun _ hk => hk.2) (.slice Ao98 t471.length co98)) (fun _ hk => hk.2) (.slice Ao104 t474.length co104)) (fun _ h_ => h_.1))) hb)) (And.intro (Aside0.mk (Kd.R_below (rP (Kd.R_mono (Kd.R_far (p := ⟨gb477, 1, none⟩) (Kd.R_far (p := ⟨gb477, 0, none⟩) (Kd.R_types HO470.out BK477.out (by decide)) (fun _ hk => hk.2) (.slice Ao98 t471.length co98)) (fun _ hk => hk.2) (.slice Ao104 t474.length co104)) (fun _ h_ => h_.1))) hb)) (And.intro (Aside0.mk (Kd.R_below (rP (Kd.R_mono (Kd.R_far (p := ⟨gb477, 1, none⟩) (Kd.R_far (p := ⟨gb477, 0, none⟩) (Kd.R_types HO473.out BK477.out (by decide)) (fun _ hk => hk.2) (.slice Ao98 t471.length co98)) (fun _ hk => hk.2) (.slice Ao104 t474.length co104)) (fun _ h_ => h_.1))) hb)) (And.intro (Aside0.mk (Kd.R_below (rP (Kd.R_mono (Kd.R_far (p := ⟨gb477, 1, none⟩) (Kd.R_far (p := ⟨gb477, 0, none⟩) (Kd.R_types HO476.out BK477.out (by decide)) (fun _ hk => hk.2) (.slice Ao98 t471.length co98)) (fun _ hk => hk.2) (.slice Ao104 t474.length co104)) (fun _ h_ => h_.1))) hb)) (And.intro (kB BK420 hb) (And.intro (kB BK434 hb) (And.intro (kB BK441 hb) (And.intro (kB BK448 hb) (And.intro (Aside0.mk (blk_below (g := gb477) (o := .cells #[.slice Ao98 t471.length co98, .slice Ao104 t474.length co104] 30 (0, 0)) (by (with_reducible repeat (first | refine blk_drewN ?_ _ | refine blk_drew ?_ | refine blk_alloc ?_ _)); refine blk_put (cs := #[.slice Ao98 t471.length co98, .slice none 0 0]) ?_ 1 _ rfl; (with_reducible repeat (first | refine blk_drewN ?_ _ | refine blk_drew ?_ | refine blk_alloc ?_ _)); refine blk_put (cs := #[.slice none 0 0, .slice none 0 0]) ?_ 0 _ rfl; (with_reducible repeat (first | refine blk_drewN ?_ _ | refine blk_drew ?_ | refine blk_alloc ?_ _)); exact BK477.out) hb)) (sB HB hb))))))))))))))); clear HO_435000 HO_435001 HO_442000 HO_442001 HO_449000 HO_449001 HO467 HO470 HO473 HO476 BK420 BK434 BK441 BK448 BK477 HB; obtain ⟨HO_435000, HO_435001, HO_442000, HO_442001, HO_449000, HO_449001, HO467, HO470, HO473, HO476, BK420, BK434, BK441, BK448, BK477, HB⟩ := n_; (try clear hb)))
               (try simp only [Act.put, List.setIfInBounds_toArray, List.set_cons_zero, List.set_cons_succ])
               go_cut [] (fun wc => ∃ (kq : Nat), Aside0 (laws_FnExactRecover.j7 kq t461 t462 t463 = some r) ∧ Aside0 (kq ≤ kj82) ∧ Aside0 (Kd.R Kd.string 9 wc w.heap.size (fun k_ => some k_ ≠ ((.slice Ao28 t458.length co28) : Value).ownBlock ∧ some k_ ≠ ((.slice Ao35 t462.length co35) : Value).ownBlock ∧ some k_ ≠ ((.slice Ao98 t471.length co98) : Value).ownBlock) (.slice Ao21 t428.length co21) t428) ∧ Aside0 (Kd.R k65 65 wc w.heap.size (fun k_ => some k_ ≠ ((.slice Ao32 t459.length co32) : Value).ownBlock ∧ some k_ ≠ ((.slice Ao40 t463.length co40) : Value).ownBlock ∧ some k_ ≠ ((.slice Ao104 t474.length co104) : Value).ownBlock) (.slice Ao24 t431.length co24) t431) ∧ Aside0 (Kd.R Kd.string 9 wc w.heap.size (fun k_ => some k_ ≠ ((.slice Ao21 t428.length co21) : Value).ownBlock ∧ some k_ ≠ ((.slice Ao35 t462.length co35) : Value).ownBlock ∧ some k_ ≠ ((.slice Ao98 t471.length co98) : Value).ownBlock) (.slice Ao28 t458.length co28) t458) ∧ Aside0 (Kd.R k65 65 wc w.heap.size (fun k_ => some k_ ≠ ((.slice Ao24 t431.length co24) : Value).ownBlock ∧ some k_ ≠ ((.slice Ao40 t463.length co40) : Value).ownBlock ∧ some k_ ≠ ((.slice Ao104 t474.length co104) : Value).ownBlock) (.slice Ao32 t459.length co32) t459) ∧ Aside0 (Kd.R Kd.string 9 wc w.heap.size (fun k_ => some k_ ≠ ((.slice Ao21 t428.length co21) : Value).ownBlock ∧ some k_ ≠ ((.slice Ao28 t458.length co28) : Value).ownBlock ∧ some k_ ≠ ((.slice Ao98 t471.length co98) : Value).ownBlock) (.slice Ao35 t462.length co35) t462) ∧ Aside0 (Kd.R k65 65 wc w.heap.size (fun k_ => some k_ ≠ ((.slice Ao24 t431.length co24) : Value).ownBlock ∧ some k_ ≠ ((.slice Ao32 t459.length co32) : Value).ownBlock ∧ some k_ ≠ ((.slice Ao104 t474.length co104) : Value).ownBlock) (.slice Ao40 t463.length co40) t463) ∧ Aside0 (Kd.R Kd.string 9 wc w.heap.size (fun k_ => some k_ ≠ ((.slice Ao21 t428.length co21) : Value).ownBlock ∧ some k_ ≠ ((.slice Ao28 t458.length co28) : Value).ownBlock ∧ some k_ ≠ ((.slice Ao35 t462.length co35) : Value).ownBlock) (.slice Ao98 t471.length co98) t471) ∧ Aside0 (Kd.R k65 65 wc w.heap.size (fun k_ => some k_ ≠ ((.slice Ao24 t431.length co24) : Value).ownBlock ∧ some k_ ≠ ((.slice Ao32 t459.length co32) : Value).ownBlock ∧ some k_ ≠ ((.slice Ao40 t463.length co40) : Value).ownBlock) (.slice Ao104 t474.length co104) t474) ∧ Aside0 (wc.heap[gb420]? = some (.cells #[(.slice A0_0 l0_0.length c0_0), (.slice A0_1 l0_1.length c0_1)] 25 (0, 0))) ∧ Aside0 (wc.heap[gb434]? = some (.cells #[(.slice Ao21 t428.length co21), (.slice Ao24 t431.length co24)] 30 (0, 0))) ∧ Aside0 (wc.heap[gb441]? = some (.cells #[(.slice Ao28 t458.length co28), (.slice Ao32 t459.length co32)] 30 (0, 0))) ∧ Aside0 (wc.heap[gb448]? = some (.cells #[(.slice Ao35 t462.length co35), (.slice Ao40 t463.length co40)] 30 (0, 0))) ∧ Aside0 (wc.heap[gb477]? = some (.cells #[(.slice Ao98 t471.length co98), (.slice Ao104 t474.length co104)] 30 (0, 0))) ∧ Aside0 (Below w.heap.size w wc))
               case first =>
                have H := HC88.out
                clear HC88
                by_cases c109 : t478 = true
                ·subst c109
                 rw [if_pos rfl] at H
                 have H' := Aside0.mk H
                 clear H
                 go_wp2
                 go_meet
                 case rel => exact ⟨_, H', ⟨by have := HJ3.out; have := HJ13.out; have := HJ45.out; have := HJ53.out; have := HJ69.out; have := HJ73.out; have := HJ82.out; first | omega | exact Nat.le_refl _⟩, ⟨by (try simp only [hl442000_53]); (try simp only [hl442001_53]); (try simp only [hl449000_73]); (try simp only [hl449001_73]); (with_reducible repeat (first | apply Kd.R_alloc | apply Kd.R_drewN | apply Kd.R_drew)); exact Kd.R_mono HO_435000.out (fun _ hk => ⟨hk.1.1.1, ⟨hk.1.1.2, hk.2⟩⟩)⟩, ⟨by (try simp only [hl442000_53]); (try simp only [hl442001_53]); (try simp only [hl449000_73]); (try simp only [hl449001_73]); (with_reducible repeat (first | apply Kd.R_alloc | apply Kd.R_drewN | apply Kd.R_drew)); exact Kd.R_mono HO_435001.out (fun _ hk => ⟨hk.1.1.1, ⟨hk.1.1.2, hk.2⟩⟩)⟩, ⟨by (try simp only [hl442000_53]); (try simp only [hl442001_53]); (try simp only [hl449000_73]); (try simp only [hl449001_73]); (with_reducible repeat (first | apply Kd.R_alloc | apply Kd.R_drewN | apply Kd.R_drew)); exact Kd.R_mono HO_442000.out (fun _ hk => ⟨hk.1.1.1, ⟨hk.1.1.2, hk.2⟩⟩)⟩, ⟨by (try simp only [hl442000_53]); (try simp only [hl442001_53]); (try simp only [hl449000_73]); (try simp only [hl449001_73]); (with_reducible repeat (first | apply Kd.R_alloc | apply Kd.R_drewN | apply Kd.R_drew)); exact Kd.R_mono HO_442001.out (fun _ hk => ⟨hk.1.1.1, ⟨hk.1.1.2, hk.2⟩⟩)⟩, ⟨by (try simp only [hl442000_53]); (try simp only [hl442001_53]); (try simp only [hl449000_73]); (try simp only [hl449001_73]); (with_reducible repeat (first | apply Kd.R_alloc | apply Kd.R_drewN | apply Kd.R_drew)); exact Kd.R_mono HO_449000.out (fun _ hk => ⟨hk.1.1.1, ⟨hk.1.1.2, hk.2⟩⟩)⟩, ⟨by (try simp only [hl442000_53]); (try simp only [hl442001_53]); (try simp only [hl449000_73]); (try simp only [hl449001_73]); (with_reducible repeat (first | apply Kd.R_alloc | apply Kd.R_drewN | apply Kd.R_drew)); exact Kd.R_mono HO_449001.out (fun _ hk => ⟨hk.1.1.1, ⟨hk.1.1.2, hk.2⟩⟩)⟩, ⟨by (try simp only [hl442000_53]); (try simp only [hl442001_53]); (try simp only [hl449000_73]); (try simp only [hl449001_73]); (with_reducible repeat (first | apply Kd.R_alloc | apply Kd.R_drewN | apply Kd.R_drew)); exact Kd.R_mono HO473.out (fun _ hk => ⟨hk.1.1.1.2, ⟨hk.1.1.2, hk.1.2⟩⟩)⟩, ⟨by (try simp only [hl442000_53]); (try simp only [hl442001_53]); (try simp only [hl449000_73]); (try simp only [hl449001_73]); (with_reducible repeat (first | apply Kd.R_alloc | apply Kd.R_drewN | apply Kd.R_drew)); exact Kd.R_mono HO476.out (fun _ hk => ⟨hk.1.1.1.2, ⟨hk.1.1.2, hk.1.2⟩⟩)⟩, ⟨by (try simp only [hl442000_53]); (try simp only [hl442001_53]); (try simp only [hl449000_73]); (try simp only [hl449001_73]); (with_reducible repeat (first | refine blk_drewN ?_ _ | refine blk_drew ?_ | refine blk_alloc ?_ _)); exact BK420.out⟩, ⟨by (try simp only [hl442000_53]); (try simp only [hl442001_53]); (try simp only [hl449000_73]); (try simp only [hl449001_73]); (with_reducible repeat (first | refine blk_drewN ?_ _ | refine blk_drew ?_ | refine blk_alloc ?_ _)); exact BK434.out⟩, ⟨by (try simp only [hl442000_53]); (try simp only [hl442001_53]); (try simp only [hl449000_73]); (try simp only [hl449001_73]); (with_reducible repeat (first | refine blk_drewN ?_ _ | refine blk_drew ?_ | refine blk_alloc ?_ _)); exact BK441.out⟩, ⟨by (try simp only [hl442000_53]); (try simp only [hl442001_53]); (try simp only [hl449000_73]); (try simp only [hl449001_73]); (with_reducible repeat (first | refine blk_drewN ?_ _ | refine blk_drew ?_ | refine blk_alloc ?_ _)); exact BK448.out⟩, ⟨by (try simp only [hl442000_53]); (try simp only [hl442001_53]); (try simp only [hl449000_73]); (try simp only [hl449001_73]); (with_reducible repeat (first | refine blk_drewN ?_ _ | refine blk_drew ?_ | refine blk_alloc ?_ _)); exact BK477.out⟩, ⟨bB⟩⟩
                ·replace c109 := Bool.eq_false_iff.mpr c109
                 subst c109
                 rw [if_neg (show ¬ (false = true) by decide)] at H
                 obtain rfl := Option.some.inj H
                 go_wp2
                 go_ret
                 exact ⟨eW, bB⟩
               case rest =>
                clear HC88
                try clear c1
                try clear c2
                try clear p2
                try clear c3
                try clear c4
                try clear c5
                try clear c6
                try clear c7
                try clear c8
                try clear c8b0
                try clear c8b1
                try clear c8b2
                try clear c9
                try clear c10
                try clear c15
                try clear c17
                try clear c19
                try clear c22
                try clear c25
                try clear c29
                try clear c30
                try clear c36
                try clear c37
                try clear c38
                try clear c43
                try clear c44
                try clear c45
                try clear c52
                try clear c55
                try clear c56
                try clear c57
                try clear c60
                try clear c60b0
                try clear c60b1
                try clear c60b2
                try clear c62
                try clear c63
                try clear c64
                try clear c66
                try clear c67
                try clear c71
                try clear c75
                try clear c76
                try clear c77
                try clear c82
                try clear c82b0
                try clear c82b1
                try clear c82b2
                try clear c84
                try clear c84b0
                try clear c84b1
                try clear c84b2
                try clear c89
                try clear c90
                try clear c91
                try clear c99
                try clear c100
                try clear c101
                try clear c102
                try clear c105
                try clear c106
                try clear c109
                try clear hcz103_0
                try clear hcz103_1
                try clear hcz107_0
                try clear hcz107_1
                try clear hcz15_0
                try clear hcz15_1
                try clear hcz23_0
                try clear hcz23_1
                try clear hcz25_0
                try clear hcz25_1
                try clear hcz31_0
                try clear hcz31_1
                try clear hcz39_0
                try clear hcz39_1
                try clear hcz41_0
                try clear hcz41_1
                try clear hcz58_0
                try clear hcz58_1
                try clear hcz65_0
                try clear hcz65_1
                try clear hcz68_0
                try clear hcz68_1
                try clear hcz6_0
                try clear hcz6_1
                try clear hcz78_0
                try clear hcz78_1
                try clear hcz80_0
                try clear hcz80_1
                try clear hcz92_0
                try clear hcz92_1
                try clear hfz103_0
                try clear hfz103_1
                try clear hfz107_0
                try clear hfz107_1
                try clear hfz15_0
                try clear hfz15_1
                try clear hfz23_0
                try clear hfz23_1
                try clear hfz25_0
                try clear hfz25_1
                try clear hfz31_0
                try clear hfz31_1
                try clear hfz39_0
                try clear hfz39_1
                try clear hfz41_0
                try clear hfz41_1
                try clear hfz58_0
                try clear hfz58_1
                try clear hfz65_0
                try clear hfz65_1
                try clear hfz68_0
                try clear hfz68_1
                try clear hfz6_0
                try clear hfz6_1
                try clear hfz78_0
                try clear hfz78_1
                try clear hfz80_0
                try clear hfz80_1
                try clear hfz92_0
                try clear hfz92_1
                try clear p2
                obtain ⟨kq, HA, HJ87, HO_435000, HO_435001, HO_442000, HO_442001, HO_449000, HO_449001, HO_478000, HO_478001, BK420, BK434, BK441, BK448, BK477, HB⟩ := hcut
                cases kq with
                | zero => exact absurd HA.out (by simp [laws_FnExactRecover.j7])
                | succ kj87 =>
                 have H := HA.out
                 clear HA
                 simp only [laws_FnExactRecover.j7] at H
                 replace H := Option.bind_eq_some_iff.mp H
                 obtain ⟨t479, A1100, H⟩ := H
                 try dsimp only at H
                 have A110 := Aside0.mk A1100
                 clear A1100
                 by_cases c111 : t479 < 0
                 ·rw [if_pos c111] at H
                  have c111b0 : decide (t479 < 0) = true := decide_eq_true c111
                  clear c111
                  obtain rfl := Option.some.inj H
                  have hnb112 := NB448_420.out
                  have hnc112 := NB420_448.out
                  have hnb113 := NB448_434.out
                  have hnc113 := NB434_448.out
                  have hnb114 := NB448_441.out
                  have hnc114 := NB441_448.out
                  have hnb115 := NB448_477.out
                  have hnc115 := NB477_448.out
                  have hcz116_0 := cZ0 BK448
                  have hcz116_1 := cZ1 BK448
                  have hfz116_0 := blk_frozen BK448.out 0
                  have hfz116_1 := blk_frozen BK448.out 1
                  go_wp2_with (first | ((with_reducible refine gate_callee (f := 30) rfl ?_); refine gL (some 68) Try.func30 #[.agg #[.slice Ao35 t462.length co35, .slice Ao40 t463.length co40], .int .i64 1] ?_; (with_reducible refine (laws_heldDisk.calls kj87 _ _ t462 _ _ t463 1 t479 _ ?side1 ?side2 ?side3 ?side4 A110.out).mono ?_); (case side1 => exact cR HO_449000); (case side2 => exact (Kd.R_reads' HO_449000.out).2.1); (case side3 => exact cR HO_449001); (case side4 => exact (Kd.R_reads' HO_449001.out).2.1); rintro e w117 ⟨rfl, hb⟩; refine ⟨_, rfl, ?_⟩; have n_ := And.intro (rB HO_435000 hb) (And.intro (rB HO_435001 hb) (And.intro (rB HO_442000 hb) (And.intro (rB HO_442001 hb) (And.intro (rB HO_449000 hb) (And.intro (rB HO_449001 hb) (And.intro (rB HO_478000 hb) (And.intro (rB HO_478001 hb) (And.intro (kB BK420 hb) (And.intro (kB BK434 hb) (And.intro (kB BK441 hb) (And.intro (kB BK448 hb) (And.intro (kB BK477 hb) (sB HB hb))))))))))))); clear HO_435000 HO_435001 HO_442000 HO_442001 HO_449000 HO_449001 HO_478000 HO_478001 BK420 BK434 BK441 BK448 BK477 HB; obtain ⟨HO_435000, HO_435001, HO_442000, HO_442001, HO_449000, HO_449001, HO_478000, HO_478001, BK420, BK434, BK441, BK448, BK477, HB⟩ := n_; (try clear hb)))
                  go_ret
                  exact ⟨eW, bB⟩
                 ·rw [if_neg c111] at H
                  have c111b0 : decide (t479 < 0) = false := decide_eq_false c111
                  clear c111
                  by_cases c118 : t479 = t461
                  ·rw [if_pos c118] at H
                   have c118b0 : (t479 == t461) = true := beq_iff_eq.mpr c118
                   have c118b1 : (t479 != t461) = false := bne_eq_false_iff_eq.mpr c118
                   clear c118
                   obtain rfl := Option.some.inj H
                   have hnb119 := NB448_420.out
                   have hnc119 := NB420_448.out
                   have hnb120 := NB448_434.out
                   have hnc120 := NB434_448.out
                   have hnb121 := NB448_441.out
                   have hnc121 := NB441_448.out
                   have hnb122 := NB448_477.out
                   have hnc122 := NB477_448.out
                   have hcz123_0 := cZ0 BK448
                   have hcz123_1 := cZ1 BK448
                   have hfz123_0 := blk_frozen BK448.out 0
                   have hfz123_1 := blk_frozen BK448.out 1
                   go_wp2_with (first | ((with_reducible refine gate_callee (f := 30) rfl ?_); refine gL (some 68) Try.func30 #[.agg #[.slice Ao35 t462.length co35, .slice Ao40 t463.length co40], .int .i64 1] ?_; (with_reducible refine (laws_heldDisk.calls kj87 _ _ t462 _ _ t463 1 t479 _ ?side1 ?side2 ?side3 ?side4 A110.out).mono ?_); (case side1 => exact cR HO_449000); (case side2 => exact (Kd.R_reads' HO_449000.out).2.1); (case side3 => exact cR HO_449001); (case side4 => exact (Kd.R_reads' HO_449001.out).2.1); rintro e w124 ⟨rfl, hb⟩; refine ⟨_, rfl, ?_⟩; have n_ := And.intro (rB HO_435000 hb) (And.intro (rB HO_435001 hb) (And.intro (rB HO_442000 hb) (And.intro (rB HO_442001 hb) (And.intro (rB HO_449000 hb) (And.intro (rB HO_449001 hb) (And.intro (rB HO_478000 hb) (And.intro (rB HO_478001 hb) (And.intro (kB BK420 hb) (And.intro (kB BK434 hb) (And.intro (kB BK441 hb) (And.intro (kB BK448 hb) (And.intro (kB BK477 hb) (sB HB hb))))))))))))); clear HO_435000 HO_435001 HO_442000 HO_442001 HO_449000 HO_449001 HO_478000 HO_478001 BK420 BK434 BK441 BK448 BK477 HB; obtain ⟨HO_435000, HO_435001, HO_442000, HO_442001, HO_449000, HO_449001, HO_478000, HO_478001, BK420, BK434, BK441, BK448, BK477, HB⟩ := n_; (try clear hb)))
                   go_ret
                   exact ⟨eW, bB⟩
                  ·rw [if_neg c118] at H
                   have c118b0 : (t479 == t461) = false := beq_eq_false_iff_ne.mpr c118
                   have c118b1 : (t479 != t461) = true := bne_iff_ne.mpr c118
                   obtain rfl := Option.some.inj H
                   have hnb125 := NB448_420.out
                   have hnc125 := NB420_448.out
                   have hnb126 := NB448_434.out
                   have hnc126 := NB434_448.out
                   have hnb127 := NB448_441.out
                   have hnc127 := NB441_448.out
                   have hnb128 := NB448_477.out
                   have hnc128 := NB477_448.out
                   have hcz129_0 := cZ0 BK448
                   have hcz129_1 := cZ1 BK448
                   have hfz129_0 := blk_frozen BK448.out 0
                   have hfz129_1 := blk_frozen BK448.out 1
                   go_wp2_with (first | ((with_reducible refine gate_callee (f := 30) rfl ?_); refine gL (some 68) Try.func30 #[.agg #[.slice Ao35 t462.length co35, .slice Ao40 t463.length co40], .int .i64 1] ?_; (with_reducible refine (laws_heldDisk.calls kj87 _ _ t462 _ _ t463 1 t479 _ ?side1 ?side2 ?side3 ?side4 A110.out).mono ?_); (case side1 => exact cR HO_449000); (case side2 => exact (Kd.R_reads' HO_449000.out).2.1); (case side3 => exact cR HO_449001); (case side4 => exact (Kd.R_reads' HO_449001.out).2.1); rintro e w130 ⟨rfl, hb⟩; refine ⟨_, rfl, ?_⟩; have n_ := And.intro (rB HO_435000 hb) (And.intro (rB HO_435001 hb) (And.intro (rB HO_442000 hb) (And.intro (rB HO_442001 hb) (And.intro (rB HO_449000 hb) (And.intro (rB HO_449001 hb) (And.intro (rB HO_478000 hb) (And.intro (rB HO_478001 hb) (And.intro (kB BK420 hb) (And.intro (kB BK434 hb) (And.intro (kB BK441 hb) (And.intro (kB BK448 hb) (And.intro (kB BK477 hb) (sB HB hb))))))))))))); clear HO_435000 HO_435001 HO_442000 HO_442001 HO_449000 HO_449001 HO_478000 HO_478001 BK420 BK434 BK441 BK448 BK477 HB; obtain ⟨HO_435000, HO_435001, HO_442000, HO_442001, HO_449000, HO_449001, HO_478000, HO_478001, BK420, BK434, BK441, BK448, BK477, HB⟩ := n_; (try clear hb)))
                   go_ret
                   exact ⟨eW, bB⟩

/-- THE ONE PURE STATEMENT of laws_FnExactRecover. -/
def laws_FnExactRecover.Pure : Prop := ∀ (l0_0 : List ByteArray) (l0_1 : List (S111)) (a1 : Int), (l0_0.length ≤ maxLen ∧ ∀ x_ ∈ l0_0, x_.size ≤ maxLen) → (l0_1.length ≤ maxLen ∧ ∀ x_ ∈ l0_1, ((Lit.int .i64 x_.f0).wf = true ∧ x_.f1.size ≤ maxLen)) → (Lit.int .i64 a1).wf = true → ∃ k, laws_FnExactRecover.f k l0_0 l0_1 a1 = some true

end Go.Proofs.Ytgmpdkefegofhaa.PFnExactRecover
